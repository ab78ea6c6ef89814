/- FnExactPlainOk: the program's PlainOk returns what the reference's returns, for all arguments. No condition. -/
import Derived.Test.YtjkanclhlnojhaaAid
import Derived.Test.YtjkanclhlnojhaaBytes
import Derived.Test.YtjkanclhlnojhaaStFnExactPlainOk
namespace Go.Proofs.Ytjkanclhlnojhaa.Pure
open Go.RowKit Go.Proofs.Ytjkanclhlnojhaa.P Go.Proofs.Ytjkanclhlnojhaa.M Go.Proofs.YtjkanclhlnojhaaW.PrintWords

theorem FnExactPlainOk : St.laws_FnExactPlainOk.Pure := by
  intro s hs
  refine ⟨s.size + 1, ?_⟩
  unfold laws_FnExactPlainOk.f
  rw [spec_plainOk s hs _ (by omega), impl_plainOk s hs _ (by omega)]
  simp

end Go.Proofs.Ytjkanclhlnojhaa.Pure
