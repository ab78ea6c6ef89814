-- Made by drive.py (a program of this session) over the kit's print; not written line by line by a hand.
import Derived.Test.YtdlhidjphaaklaaKeys
import Derived.Test.YtdlhidjphaaklaaOut
import Derived.Test.YtdlhidjphaaklaaP0
namespace Go.Proofs.Ytdlhidjphaaklaa.P
open Go.RowKit Go.Proofs.YtdlhidjphaaklaaW.PrintWords Go.Proofs.YtdlhidjphaaklaaW.PrintLast Go.Proofs.YtdlhidjphaaklaaW.PrintMore
attribute [local go_sem] max2_int min2_int max_two min_two max_three min_three max_four min_four   -- for this text's walks alone
set_option linter.unusedVariables false
set_option linter.unusedSimpArgs false

noncomputable section
/-! ### impl_keysOf: function 29 -/
-- own module: Keys
-- own module: Out
noncomputable def impl_keysOf.f (a0_0 a0_1 : Int) (a0_2 : ByteArray) (l0_3 : List ByteArray) (l0_4 : List S33) : Option (List ByteArray) :=
  @ite _ (H.Asc (H.keysL ⟨a0_0, a0_1, a0_2, l0_3, l0_4⟩) ∧ l0_3.length ≤ 1099511627776 ∧ l0_4.length ≤ 1099511627776) (Classical.propDecidable _) (some (H.keysL ⟨a0_0, a0_1, a0_2, l0_3, l0_4⟩)) none
theorem impl_keysOf.calls (a0_0 a0_1 : Int) (a0_2 : ByteArray) (A0_3 : Option Addr) (c0_3 : Nat) (l0_3 : List ByteArray) (A0_4 : Option Addr) (c0_4 : Nat) (l0_4 : List S33) (r : List ByteArray) (w : World)
    (hr0_3 : Kd.C Kd.string w A0_3 l0_3.length l0_3) (hc0_3 : l0_3.length ≤ c0_3) (hr0_4 : Kd.C k33 w A0_4 l0_4.length l0_4) (hc0_4 : l0_4.length ≤ c0_4) (h : impl_keysOf.f a0_0 a0_1 a0_2 l0_3 l0_4 = some r) :
    Calls Try.prog 29 #[.agg #[.int .i64 a0_0, .int .i64 a0_1, .string a0_2, .slice A0_3 l0_3.length c0_3, .slice A0_4 l0_4.length c0_4]] w fun e w' => ∃ v0_ : Value, e = .returned (v0_) ∧ Kd.R Kd.string 9 w' w.heap.size (fun _ => True) v0_ r ∧ Below w.heap.size w w' := by
  unfold impl_keysOf.f at h
  split at h
  · rename_i hc
    obtain rfl := Option.some.inj h
    exact (H.keysOf_calls ⟨a0_0, a0_1, a0_2, l0_3, l0_4⟩ hc.1 hc.2.1 hc.2.2 A0_3 A0_4 c0_3 c0_4 w hr0_3 hc0_3 hr0_4 hc0_4).mono fun e w' ⟨v, he, ho, hf, hb⟩ => ⟨v, he, H.SRow_R ho (fun k hk => ⟨hf k hk, trivial⟩), hb⟩
  · cases h

end
end Go.Proofs.Ytdlhidjphaaklaa.P
