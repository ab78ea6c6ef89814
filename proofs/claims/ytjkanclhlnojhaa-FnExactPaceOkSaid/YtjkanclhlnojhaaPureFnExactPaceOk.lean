/- FnExactPaceOk: the program's PaceOk returns what the reference's returns, for all arguments. No condition. -/
import Derived.Test.YtjkanclhlnojhaaAid
import Derived.Test.YtjkanclhlnojhaaBytes
import Derived.Test.YtjkanclhlnojhaaStFnExactPaceOk
namespace Go.Proofs.Ytjkanclhlnojhaa.Pure
open Go.RowKit Go.Proofs.Ytjkanclhlnojhaa.P Go.Proofs.Ytjkanclhlnojhaa.M Go.Proofs.YtjkanclhlnojhaaW.PrintWords

theorem FnExactPaceOk : St.laws_FnExactPaceOk.Pure := by
  intro x _
  unfold laws_FnExactPaceOk.f
  simp only [laws_toPace.f, Option.bind_some, spec_PaceOk.f, impl_PaceOk.f, impl_isMany.f, l1In_eq, from_eq]
  cases inB x.f0 0 1000 <;> cases inB x.f1 0 1000 <;> cases inB x.f2 0 3600 <;> cases inB x.f3 0 3600 <;> simp

end Go.Proofs.Ytjkanclhlnojhaa.Pure
