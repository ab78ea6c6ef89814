-- spec.PaceOf: its contract by hand (PaceSW), in the form that the print asks for.
import Derived.Test.YtdlhidjphaaklaaPaceSW
import Derived.Test.YtdlhidjphaaklaaP0
namespace Go.Proofs.Ytdlhidjphaaklaa.P
open Go.RowKit Go.Proofs.YtdlhidjphaaklaaW.PrintWords Go.Proofs.YtdlhidjphaaklaaW.PrintLast Go.Proofs.YtdlhidjphaaklaaW.PrintMore
set_option linter.unusedVariables false
set_option linter.unusedSimpArgs false

noncomputable section
/-! ### spec_PaceOf: function 6 -/
def spec_PaceOf.f (k : Nat) (a0_0 : Int) (a0_1 : Int) (a0_2 : ByteArray) (l0_3 : List ByteArray) (l0_4 : List S33) : Option (Int × Int × Int × Int × ByteArray) :=
  @ite _ (H.cntTop ⟨a0_0, a0_1, a0_2, l0_3, l0_4⟩ ≤ 1099511627776 ∧ M.totK ⟨a0_0, a0_1, a0_2, l0_3, l0_4⟩ ≤ 1048576) (Classical.propDecidable _) (some (H.paceE ⟨a0_0, a0_1, a0_2, l0_3, l0_4⟩)) none
theorem spec_PaceOf.mono : ∀ a0 a1 a2 a3 a4 k, LeO (spec_PaceOf.f k a0 a1 a2 a3 a4) (spec_PaceOf.f (k + 1) a0 a1 a2 a3 a4) := fun _ _ _ _ _ _ => LeO.refl _
theorem spec_PaceOf.calls (k : Nat) (a0_0 : Int) (a0_1 : Int) (a0_2 : ByteArray) (A0_3 : Option Addr) (c0_3 : Nat) (l0_3 : List ByteArray) (A0_4 : Option Addr) (c0_4 : Nat) (l0_4 : List (S33)) (r1 : Int) (r2 : Int) (r3 : Int) (r4 : Int) (r5 : ByteArray) (w : World) (hr0_3 : Kd.C Kd.string w A0_3 l0_3.length l0_3) (hc0_3 : l0_3.length ≤ c0_3) (hr0_4 : Kd.C k33 w A0_4 l0_4.length l0_4) (hc0_4 : l0_4.length ≤ c0_4) (h : spec_PaceOf.f k a0_0 a0_1 a0_2 l0_3 l0_4 = some (r1, r2, r3, r4, r5)) :
    Calls Try.prog 6 #[.agg #[.int .i64 a0_0, .int .i64 a0_1, .string a0_2, .slice A0_3 l0_3.length c0_3, .slice A0_4 l0_4.length c0_4]] w fun e w' => e = .returned (.tuple #[.agg #[.int .i64 r1, .int .i64 r2, .int .i64 r3, .int .i64 r4], .string r5]) ∧ Below w.heap.size w w' := by
  unfold spec_PaceOf.f at h
  split at h
  · rename_i hc
    have h1 := Option.some.inj h
    have h2 := H.paceOfS_calls ⟨a0_0, a0_1, a0_2, l0_3, l0_4⟩ hc.1 hc.2 A0_3 A0_4 c0_3 c0_4 w hr0_3 hc0_3 hr0_4 hc0_4
    rw [h1] at h2
    exact h2
  · cases h

end
end Go.Proofs.Ytdlhidjphaaklaa.P
