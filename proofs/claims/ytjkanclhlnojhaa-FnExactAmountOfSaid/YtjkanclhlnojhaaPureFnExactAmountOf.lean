/- FnExactAmountOf: the program's AmountOf returns what the reference's returns, for all arguments. No condition. -/
import Derived.Test.YtjkanclhlnojhaaAid
import Derived.Test.YtjkanclhlnojhaaAmount
import Derived.Test.YtjkanclhlnojhaaBytes
import Derived.Test.YtjkanclhlnojhaaDigits
import Derived.Test.YtjkanclhlnojhaaNumber
import Derived.Test.YtjkanclhlnojhaaStFnExactAmountOf
namespace Go.Proofs.Ytjkanclhlnojhaa.Pure
open Go.RowKit Go.Proofs.Ytjkanclhlnojhaa.P Go.Proofs.Ytjkanclhlnojhaa.M Go.Proofs.YtjkanclhlnojhaaW.PrintWords

theorem FnExactAmountOf : St.laws_FnExactAmountOf.Pure := by
  intro s hs
  refine ⟨BIG + 31 + s.size, ?_⟩
  unfold laws_FnExactAmountOf.f
  rw [spec_amountOf s hs _ (by omega) (by omega), impl_amountOf s hs _ (by omega)]
  simp

end Go.Proofs.Ytjkanclhlnojhaa.Pure
