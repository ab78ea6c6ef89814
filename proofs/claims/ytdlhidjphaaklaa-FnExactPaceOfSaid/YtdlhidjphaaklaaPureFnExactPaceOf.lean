/- FnExactPaceOf: the program's PaceOf returns what the reference's returns, for all arguments, and leaves its argument as it was. No condition. -/
import Derived.Test.YtdlhidjphaaklaaAid
import Derived.Test.YtdlhidjphaaklaaCnt
import Derived.Test.YtdlhidjphaaklaaEv
import Derived.Test.YtdlhidjphaaklaaLists
import Derived.Test.YtdlhidjphaaklaaP_laws_FnExactPaceOf
import Derived.Test.YtdlhidjphaaklaaPaceOf
import Derived.Test.YtdlhidjphaaklaaStFnExactPaceOf
import Derived.Test.YtdlhidjphaaklaaTok
import Derived.Test.YtdlhidjphaaklaaTokIn
import Derived.Test.YtdlhidjphaaklaaTree
import Derived.Test.YtdlhidjphaaklaaTreeIn
namespace Go.Proofs.Ytdlhidjphaaklaa.Pure
open Go.RowKit Go.Proofs.Ytdlhidjphaaklaa.P Go.Proofs.Ytdlhidjphaaklaa.M Go.Proofs.Ytdlhidjphaaklaa.O Go.Proofs.YtdlhidjphaaklaaW.PrintWords

theorem spec_pace_ev (x : S33) (hc : H.cntTop x ≤ 1099511627776) (ht : totK x ≤ 1048576) : Ev (fun k => spec_PaceOf.f k x.f0 x.f1 x.f2 x.f3 x.f4) (H.paceE x) := by
  refine ⟨0, fun k _ => ?_⟩
  show spec_PaceOf.f k x.f0 x.f1 x.f2 x.f3 x.f4 = some (H.paceE x)
  unfold spec_PaceOf.f
  rw [H.node_eta]
  exact if_pos (And.intro hc ht)
theorem FnExactPaceOf : St.laws_FnExactPaceOf.Pure := by
  rintro a ⟨na, ga⟩
  refine Ev.rounds ?_
  unfold laws_FnExactPaceOf.f
  refine Ev.bind (sz_ev na a ga 1048576 (by omega) (by omega)) ?_
  by_cases h : szLeft (totT a) 1048576 < 0
  · simp only [h, if_true]
    exact Ev.now _
  · have hle := szLeft_neg h
    have ra := rnd_le na a ga
    have ht := totK_toT na a ga
    have hc := H.cntTop_toT a ⟨na, ga⟩
    have hT := to_ev na a ga (by omega)
    simp only [h, if_false]
    refine Ev.bind hT (Ev.bind (in_ev (spec_pace_ev (toT a) (by omega) (by omega))) (Ev.bind hT (Ev.bind (in_ev (H.impl_pace_ev (toT a) (by omega) (by omega))) ?_)))
    simp only [laws_eqPace.f, bne_self_eq_false, if_true, Option.bind_some]
    refine Ev.step (f := fun k => (laws_toNode.f k a.f0 a.f1 a.f2 a.f3 a.f4).bind fun bt369 => ((laws_eqNode.f k a.f0 a.f1 a.f2 a.f3 (a.f4.map toT) bt369.1 bt369.2.1 bt369.2.2.1 bt369.2.2.2.1 bt369.2.2.2.2).bind fun t378 => (if t378 = true then (some true) else (some false)))) (fun k => by simp only [laws_FnExactPaceOf.j0, Bool.false_eq_true, if_false]) ?_
    refine Ev.bind hT (Ev.bind (same_ev a (by omega)) ?_)
    exact Ev.now _
end Go.Proofs.Ytdlhidjphaaklaa.Pure
