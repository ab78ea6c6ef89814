/- FnExactQuote: the program's Quote returns what the reference's returns, for all arguments. No condition. -/
import Derived.Test.YtjkanclhlnojhaaAid
import Derived.Test.YtjkanclhlnojhaaBytes
import Derived.Test.YtjkanclhlnojhaaQuote
import Derived.Test.YtjkanclhlnojhaaStFnExactQuote
namespace Go.Proofs.Ytjkanclhlnojhaa.Pure
open Go.RowKit Go.Proofs.Ytjkanclhlnojhaa.P Go.Proofs.Ytjkanclhlnojhaa.M Go.Proofs.YtjkanclhlnojhaaW.PrintWords

theorem FnExactQuote : St.laws_FnExactQuote.Pure := by
  intro s hs
  refine ⟨s.size + 1, ?_⟩
  unfold laws_FnExactQuote.f
  by_cases h : (s.size : Int) > 1048576
  · rw [if_pos h]
  · rw [if_neg h, spec_quote s (by omega) _ (by omega), impl_quote s (by omega) _ (by omega)]
    simp

end Go.Proofs.Ytjkanclhlnojhaa.Pure
