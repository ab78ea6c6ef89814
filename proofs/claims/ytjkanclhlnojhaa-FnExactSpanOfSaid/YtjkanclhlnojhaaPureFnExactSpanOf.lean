/- FnExactSpanOf: the program's SpanOf returns what the reference's returns, for all arguments. No condition. -/
import Derived.Test.YtjkanclhlnojhaaAid
import Derived.Test.YtjkanclhlnojhaaAmount
import Derived.Test.YtjkanclhlnojhaaBytes
import Derived.Test.YtjkanclhlnojhaaDigits
import Derived.Test.YtjkanclhlnojhaaNumber
import Derived.Test.YtjkanclhlnojhaaStFnExactSpanOf
namespace Go.Proofs.Ytjkanclhlnojhaa.Pure
open Go.RowKit Go.Proofs.Ytjkanclhlnojhaa.P Go.Proofs.Ytjkanclhlnojhaa.M Go.Proofs.YtjkanclhlnojhaaW.PrintWords

theorem FnExactSpanOf : St.laws_FnExactSpanOf.Pure := by
  intro s hs
  refine ⟨BIG + 31 + s.size, ?_⟩
  unfold laws_FnExactSpanOf.f
  rw [spec_spanOf s hs _ (by omega) (by omega), impl_spanOf s hs _ (by omega)]
  simp

end Go.Proofs.Ytjkanclhlnojhaa.Pure
