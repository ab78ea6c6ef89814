/- FnExactMetricOk: the program's MetricOk returns what the reference's returns, for all arguments. No condition. -/
import Derived.Test.YtjkanclhlnojhaaAid
import Derived.Test.YtjkanclhlnojhaaBytes
import Derived.Test.YtjkanclhlnojhaaStFnExactMetricOk
namespace Go.Proofs.Ytjkanclhlnojhaa.Pure
open Go.RowKit Go.Proofs.Ytjkanclhlnojhaa.P Go.Proofs.Ytjkanclhlnojhaa.M Go.Proofs.YtjkanclhlnojhaaW.PrintWords

theorem FnExactMetricOk : St.laws_FnExactMetricOk.Pure := by
  intro x hx
  refine ⟨x.f0.size + 1, ?_⟩
  unfold laws_FnExactMetricOk.f
  obtain ⟨h0, h1, h2⟩ := hx
  unfold maxLen at h0
  simp only [laws_szMetric.f, laws_toMetric.f, Option.bind_some]
  by_cases hz : wrap64 (1048576 - (x.f0.size : Int)) < 0
  · simp [hz]
  · have hs : x.f0.size ≤ 1048576 := by
      rw [w64 (by omega) (by omega)] at hz
      omega
    simp only [spec_MetricOk.f, impl_MetricOk.f, l1In_eq, from_eq, spec_nameOk x.f0 (by omega) (x.f0.size + 1) (by omega), impl_nameOk x.f0 (by omega) (x.f0.size + 1) (by omega), Option.bind_some]
    cases nameOk x.f0 <;> cases inB x.f1 1 3 <;> cases inB x.f2 1 1000000 <;> simp [hz]

end Go.Proofs.Ytjkanclhlnojhaa.Pure
