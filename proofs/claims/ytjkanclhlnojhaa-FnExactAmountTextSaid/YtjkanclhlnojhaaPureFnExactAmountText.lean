/- FnExactAmountText: the program's AmountText returns what the reference's returns, for all arguments. No condition. -/
import Derived.Test.YtjkanclhlnojhaaAid
import Derived.Test.YtjkanclhlnojhaaAmount
import Derived.Test.YtjkanclhlnojhaaBytes
import Derived.Test.YtjkanclhlnojhaaDigits
import Derived.Test.YtjkanclhlnojhaaNumber
import Derived.Test.YtjkanclhlnojhaaStFnExactAmountText
namespace Go.Proofs.Ytjkanclhlnojhaa.Pure
open Go.RowKit Go.Proofs.Ytjkanclhlnojhaa.P Go.Proofs.Ytjkanclhlnojhaa.M Go.Proofs.YtjkanclhlnojhaaW.PrintWords

theorem FnExactAmountText : St.laws_FnExactAmountText.Pure := by
  intro n _
  refine ⟨BIG + 1, ?_⟩
  unfold laws_FnExactAmountText.f
  rw [spec_amountText n _ (by omega), impl_amountText n _ (by omega)]
  simp

end Go.Proofs.Ytjkanclhlnojhaa.Pure
