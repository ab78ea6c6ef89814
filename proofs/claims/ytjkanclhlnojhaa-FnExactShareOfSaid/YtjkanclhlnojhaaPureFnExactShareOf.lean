/- FnExactShareOf: the program's ShareOf returns what the reference's returns, for all arguments, and leaves its argument as it was. No condition. -/
import Derived.Test.YtjkanclhlnojhaaAid
import Derived.Test.YtjkanclhlnojhaaBytes
import Derived.Test.YtjkanclhlnojhaaLists
import Derived.Test.YtjkanclhlnojhaaP_laws_eqMetricS
import Derived.Test.YtjkanclhlnojhaaShare
import Derived.Test.YtjkanclhlnojhaaStFnExactShareOf
namespace Go.Proofs.Ytjkanclhlnojhaa.Pure
open Go.RowKit Go.Proofs.Ytjkanclhlnojhaa.P Go.Proofs.Ytjkanclhlnojhaa.M Go.Proofs.YtjkanclhlnojhaaW.PrintWords

theorem FnExactShareOf : St.laws_FnExactShareOf.Pure := by
  intro l hl hm
  refine ⟨l.length + 2, ?_⟩
  unfold laws_FnExactShareOf.f
  rw [szMetricS_eq l hl (fun m h => (hm m h).1) 1048576 (by omega) (by omega) _ (by omega), Option.bind_some]
  by_cases h : szLeft (l.length + (l.map totMetric).sum) 1048576 < 0
  · rw [if_pos h]
  · have hle := szLeft_neg h
    have hlen : l.length ≤ 1048576 := by omega
    rw [if_neg h, toMetricS_eq l hlen _ (by omega), Option.bind_some, spec_share _ (by simpa using hlen) _ (by simp), Option.bind_some, Option.bind_some, impl_share _ (by simpa using hlen) _ (by simp), Option.bind_some]
    simp only [if_true, bne_self_eq_false]
    simp only [laws_FnExactShareOf.j0, Bool.false_eq_true, if_false]
    rw [toMetricS_eq l hlen _ (by omega), Option.bind_some, eqMetricS_self _ (by simpa using hlen) _ (by simp)]
    simp
end Go.Proofs.Ytjkanclhlnojhaa.Pure
