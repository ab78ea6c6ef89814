/- FnExactInline: the program's Inline returns what the reference's returns, for all arguments, and leaves its argument as it was. No condition. -/
import Derived.Test.YtnbnpgjgibcmpaaAid
import Derived.Test.YtnbnpgjgibcmpaaBr
import Derived.Test.YtnbnpgjgibcmpaaEv
import Derived.Test.YtnbnpgjgibcmpaaInd
import Derived.Test.YtnbnpgjgibcmpaaLists
import Derived.Test.YtnbnpgjgibcmpaaP_laws_FnExactInline
import Derived.Test.YtnbnpgjgibcmpaaStFnExactInline
import Derived.Test.YtnbnpgjgibcmpaaTok
import Derived.Test.YtnbnpgjgibcmpaaTokIn
import Derived.Test.YtnbnpgjgibcmpaaTree
import Derived.Test.YtnbnpgjgibcmpaaTreeIn
namespace Go.Proofs.Ytnbnpgjgibcmpaa.Pure
open Go.RowKit Go.Proofs.Ytnbnpgjgibcmpaa.P Go.Proofs.Ytnbnpgjgibcmpaa.M Go.Proofs.Ytnbnpgjgibcmpaa.O Go.Proofs.YtnbnpgjgibcmpaaW.PrintWords

theorem FnExactInline : St.laws_FnExactInline.Pure := by
  rintro a ⟨na, ga⟩
  refine Ev.rounds ?_
  unfold laws_FnExactInline.f
  refine Ev.bind (sz_ev na a ga 1048576 (by omega) (by omega)) ?_
  by_cases h : szLeft (totT a) 1048576 < 0
  · simp only [h, if_true]
    exact Ev.now _
  · have hle := szLeft_neg h
    have ra := rnd_le na a ga
    have ht := totK_toT na a ga
    have hT := to_ev na a ga (by omega)
    simp only [h, if_false]
    refine Ev.bind hT (Ev.bind (in_ev (spec_inline_ev (toT a) (by omega))) (Ev.bind hT (Ev.bind (in_ev (impl_inline_ev (toT a) (by omega))) ?_)))
    simp only [if_true]
    refine Ev.bind hT (Ev.bind (same_ev a (by omega)) ?_)
    exact Ev.now _
end Go.Proofs.Ytnbnpgjgibcmpaa.Pure
