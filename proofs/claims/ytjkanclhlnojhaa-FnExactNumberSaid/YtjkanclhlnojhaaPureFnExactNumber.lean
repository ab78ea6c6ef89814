/- FnExactNumber: the program's Number returns what the reference's returns, for all arguments. No condition. -/
import Derived.Test.YtjkanclhlnojhaaAid
import Derived.Test.YtjkanclhlnojhaaBytes
import Derived.Test.YtjkanclhlnojhaaDigits
import Derived.Test.YtjkanclhlnojhaaNumber
import Derived.Test.YtjkanclhlnojhaaStFnExactNumber
namespace Go.Proofs.Ytjkanclhlnojhaa.Pure
open Go.RowKit Go.Proofs.Ytjkanclhlnojhaa.P Go.Proofs.Ytjkanclhlnojhaa.M Go.Proofs.YtjkanclhlnojhaaW.PrintWords

theorem FnExactNumber : St.laws_FnExactNumber.Pure := by
  intro s _
  refine ⟨BIG + 26, ?_⟩
  unfold laws_FnExactNumber.f
  rw [spec_number s _ (by omega), impl_number s _ (by omega)]
  simp

end Go.Proofs.Ytjkanclhlnojhaa.Pure
