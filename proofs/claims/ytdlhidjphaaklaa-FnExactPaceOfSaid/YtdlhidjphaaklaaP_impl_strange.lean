-- Made by drive.py (a program of this session) over the kit's print; not written line by line by a hand.
import Derived.Test.YtdlhidjphaaklaaP0
import Derived.Test.YtdlhidjphaaklaaStrange
namespace Go.Proofs.Ytdlhidjphaaklaa.P
open Go.RowKit Go.Proofs.YtdlhidjphaaklaaW.PrintWords Go.Proofs.YtdlhidjphaaklaaW.PrintLast Go.Proofs.YtdlhidjphaaklaaW.PrintMore
attribute [local go_sem] max2_int min2_int max_two min_two max_three min_three max_four min_four   -- for this text's walks alone
set_option linter.unusedVariables false
set_option linter.unusedSimpArgs false

noncomputable section
/-! ### impl_strange: function 26 -/
-- own module: Strange
noncomputable def impl_strange.f (a0_0 a0_1 : Int) (a0_2 : ByteArray) (l0_3 : List ByteArray) (l0_4 : List S33) (l1 l2 : List ByteArray) : Option (ByteArray × Bool) :=
  @ite _ (H.Asc (H.keysL ⟨a0_0, a0_1, a0_2, l0_3, l0_4⟩) ∧ H.Asc l2 ∧ l0_3.length ≤ 1099511627776 ∧ l0_4.length ≤ 1099511627776 ∧ l1.length ≤ 1099511627776 ∧ l2.length ≤ 1099511627776) (Classical.propDecidable _) (some ((H.strangeV ⟨a0_0, a0_1, a0_2, l0_3, l0_4⟩ l1 l2).1, (H.strangeV ⟨a0_0, a0_1, a0_2, l0_3, l0_4⟩ l1 l2).2)) none
theorem impl_strange.calls (a0_0 a0_1 : Int) (a0_2 : ByteArray) (A0_3 : Option Addr) (c0_3 : Nat) (l0_3 : List ByteArray) (A0_4 : Option Addr) (c0_4 : Nat) (l0_4 : List S33) (A1 : Option Addr) (c1 : Nat) (l1 : List ByteArray) (A2 : Option Addr) (c2 : Nat) (l2 : List ByteArray) (r1 : ByteArray) (r2 : Bool) (w : World)
    (hr0_3 : Kd.C Kd.string w A0_3 l0_3.length l0_3) (hc0_3 : l0_3.length ≤ c0_3) (hr0_4 : Kd.C k33 w A0_4 l0_4.length l0_4) (hc0_4 : l0_4.length ≤ c0_4) (hr1 : Kd.C Kd.string w A1 l1.length l1) (hc1 : l1.length ≤ c1) (hr2 : Kd.C Kd.string w A2 l2.length l2) (hc2 : l2.length ≤ c2) (h : impl_strange.f a0_0 a0_1 a0_2 l0_3 l0_4 l1 l2 = some (r1, r2)) :
    Calls Try.prog 26 #[.agg #[.int .i64 a0_0, .int .i64 a0_1, .string a0_2, .slice A0_3 l0_3.length c0_3, .slice A0_4 l0_4.length c0_4], .slice A1 l1.length c1, .slice A2 l2.length c2] w fun e w' => e = .returned (.tuple #[.string r1, .bool r2]) ∧ Below w.heap.size w w' := by
  unfold impl_strange.f at h
  split at h
  · rename_i hc
    simp only [Option.some.injEq, Prod.mk.injEq] at h
    obtain ⟨rfl, rfl⟩ := h
    exact H.strange_calls ⟨a0_0, a0_1, a0_2, l0_3, l0_4⟩ l1 l2 hc.1 hc.2.1 hc.2.2.1 hc.2.2.2.1 hc.2.2.2.2.1 hc.2.2.2.2.2 A0_3 A0_4 A1 A2 c0_3 c0_4 c1 c2 w hr0_3 hc0_3 hr0_4 hc0_4 hr1 hc1 hr2 hc2
  · cases h

end
end Go.Proofs.Ytdlhidjphaaklaa.P
