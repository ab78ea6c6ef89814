/- FnExactDigits: the program's Digits returns what the reference's returns, for all arguments. No condition. -/
import Derived.Test.YtjkanclhlnojhaaAid
import Derived.Test.YtjkanclhlnojhaaDigits
import Derived.Test.YtjkanclhlnojhaaStFnExactDigits
namespace Go.Proofs.Ytjkanclhlnojhaa.Pure
open Go.RowKit Go.Proofs.Ytjkanclhlnojhaa.P Go.Proofs.Ytjkanclhlnojhaa.M Go.Proofs.YtjkanclhlnojhaaW.PrintWords

theorem FnExactDigits : St.laws_FnExactDigits.Pure := by
  intro n hn
  have h : -9223372036854775808 ≤ n ∧ n ≤ 9223372036854775807 := int_wf hn
  refine ⟨2 * n.natAbs + 26, ?_⟩
  unfold laws_FnExactDigits.f
  rw [spec_digits n h.1 h.2 _ (by omega), impl_digits n h.1 h.2 _ (by omega)]
  simp

end Go.Proofs.Ytjkanclhlnojhaa.Pure
