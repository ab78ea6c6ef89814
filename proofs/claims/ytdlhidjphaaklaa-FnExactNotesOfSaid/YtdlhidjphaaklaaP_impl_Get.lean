-- Made by drive.py (a program of this session) over the kit's print; not written line by line by a hand.
import Derived.Test.YtdlhidjphaaklaaOuts
import Derived.Test.YtdlhidjphaaklaaP0
namespace Go.Proofs.Ytdlhidjphaaklaa.P
open Go.RowKit Go.Proofs.YtdlhidjphaaklaaW.PrintWords Go.Proofs.YtdlhidjphaaklaaW.PrintLast Go.Proofs.YtdlhidjphaaklaaW.PrintMore
attribute [local go_sem] max2_int min2_int max_two min_two max_three min_three max_four min_four   -- for this text's walks alone
set_option linter.unusedVariables false
set_option linter.unusedSimpArgs false

noncomputable section
/-! ### impl_Get: function 30 -/
-- own module: Outs
noncomputable def impl_Get.f (a0_0 a0_1 : Int) (a0_2 : ByteArray) (l0_3 : List ByteArray) (l0_4 : List S33) (a1 : ByteArray) : Option (Int × Int × ByteArray × List ByteArray × List S33 × Bool) :=
  if H.cntTop ⟨a0_0, a0_1, a0_2, l0_3, l0_4⟩ ≤ 1099511627776 then some ((H.getV ⟨a0_0, a0_1, a0_2, l0_3, l0_4⟩ a1).f0, (H.getV ⟨a0_0, a0_1, a0_2, l0_3, l0_4⟩ a1).f1, (H.getV ⟨a0_0, a0_1, a0_2, l0_3, l0_4⟩ a1).f2, (H.getV ⟨a0_0, a0_1, a0_2, l0_3, l0_4⟩ a1).f3, (H.getV ⟨a0_0, a0_1, a0_2, l0_3, l0_4⟩ a1).f4, (H.getK ⟨a0_0, a0_1, a0_2, l0_3, l0_4⟩ a1).isSome) else none
theorem impl_Get.calls (a0_0 a0_1 : Int) (a0_2 : ByteArray) (A0_3 : Option Addr) (c0_3 : Nat) (l0_3 : List ByteArray) (A0_4 : Option Addr) (c0_4 : Nat) (l0_4 : List S33) (a1 : ByteArray) (r1 r2 : Int) (r3 : ByteArray) (r4 : List ByteArray) (r5 : List S33) (r6 : Bool) (w : World) (hr0_3 : Kd.C Kd.string w A0_3 l0_3.length l0_3) (hc0_3 : l0_3.length ≤ c0_3) (hr0_4 : Kd.C k33 w A0_4 l0_4.length l0_4) (hc0_4 : l0_4.length ≤ c0_4) (h : impl_Get.f a0_0 a0_1 a0_2 l0_3 l0_4 a1 = some (r1, r2, r3, r4, r5, r6)) :
    Calls Try.prog 30 #[.agg #[.int .i64 a0_0, .int .i64 a0_1, .string a0_2, .slice A0_3 l0_3.length c0_3, .slice A0_4 l0_4.length c0_4], .string a1] w fun e w' => ∃ v3_ v4_ : Value, e = .returned (.tuple #[.agg #[.int .i64 r1, .int .i64 r2, .string r3, v3_, v4_], .bool r6]) ∧ Kd.R Kd.string 9 w' w.heap.size (fun _ => True) v3_ r4 ∧ Kd.R k33 33 w' w.heap.size (fun k_ => some k_ ≠ (v3_ : Value).ownBlock) v4_ r5 ∧ Below w.heap.size w w' := by
  unfold impl_Get.f at h
  split at h
  · rename_i hc
    simp only [Option.some.injEq, Prod.mk.injEq] at h
    obtain ⟨rfl, rfl, rfl, rfl, rfl, rfl⟩ := h
    exact (H.get_calls ⟨a0_0, a0_1, a0_2, l0_3, l0_4⟩ a1 hc A0_3 A0_4 c0_3 c0_4 w hr0_3 hc0_3 hr0_4 hc0_4).mono fun e w' hm => H.Made2_R hm
  · cases h

end
end Go.Proofs.Ytdlhidjphaaklaa.P
