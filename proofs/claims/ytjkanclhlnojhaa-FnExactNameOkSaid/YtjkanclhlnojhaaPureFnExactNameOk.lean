/- FnExactNameOk: the program's NameOk returns what the reference's returns, for all arguments. No condition. -/
import Derived.Test.YtjkanclhlnojhaaAid
import Derived.Test.YtjkanclhlnojhaaBytes
import Derived.Test.YtjkanclhlnojhaaStFnExactNameOk
namespace Go.Proofs.Ytjkanclhlnojhaa.Pure
open Go.RowKit Go.Proofs.Ytjkanclhlnojhaa.P Go.Proofs.Ytjkanclhlnojhaa.M Go.Proofs.YtjkanclhlnojhaaW.PrintWords

theorem FnExactNameOk : St.laws_FnExactNameOk.Pure := by
  intro s hs
  refine ⟨s.size + 1, ?_⟩
  unfold laws_FnExactNameOk.f
  rw [spec_nameOk s hs _ (by omega), impl_nameOk s hs _ (by omega)]
  simp

end Go.Proofs.Ytjkanclhlnojhaa.Pure
