/- FnExactTreeSame: the program's TreeSame returns what the reference's returns, for all arguments, and leaves its arguments as they were. No condition. -/
import Derived.Test.YtnbnpgjgibcmpaaAid
import Derived.Test.YtnbnpgjgibcmpaaLists
import Derived.Test.YtnbnpgjgibcmpaaP_laws_FnExactTreeSame
import Derived.Test.YtnbnpgjgibcmpaaStFnExactTreeSame
import Derived.Test.YtnbnpgjgibcmpaaTree
import Derived.Test.YtnbnpgjgibcmpaaTreeIn
namespace Go.Proofs.Ytnbnpgjgibcmpaa.Pure
open Go.RowKit Go.Proofs.Ytnbnpgjgibcmpaa.P Go.Proofs.Ytnbnpgjgibcmpaa.M Go.Proofs.Ytnbnpgjgibcmpaa.O Go.Proofs.YtnbnpgjgibcmpaaW.PrintWords

theorem FnExactTreeSame : St.laws_FnExactTreeSame.Pure := by
  rintro a b ⟨na, ga⟩ ⟨nb, gb⟩
  refine ⟨rnd (toT a) + rnd (toT b) + 1, ?_⟩
  generalize hk : rnd (toT a) + rnd (toT b) + 1 = k
  unfold laws_FnExactTreeSame.f
  rw [szNode_eq na a ga 1048576 k (by omega) (by omega) (by omega), Option.bind_some]
  by_cases h : szLeft (totT a) 1048576 < 0
  · rw [if_pos h]
  · have hle := szLeft_neg h
    have e : szLeft (totT a) 1048576 = 1048576 - (totT a : Int) := if_pos hle
    rw [if_neg h, e, szNode_eq nb b gb _ k (by omega) (by omega) (by omega), Option.bind_some]
    by_cases h' : szLeft (totT b) (1048576 - (totT a : Int)) < 0
    · rw [if_pos h']
    · have hle' := szLeft_neg h'
      have ra := rnd_le na a ga
      have rb := rnd_le nb b gb
      have ta := toT_eq a
      have tb := toT_eq b
      have sa := specSame_eq _ (toT a) (toT b) (Nat.le_refl _) (by omega) k (by omega)
      have ia := implSame_eq _ (toT a) (toT b) (Nat.le_refl _) (by omega) k (by omega)
      have qa := eqNode_eq _ (toT a) (toT a) (Nat.le_refl _) (by omega) k (by omega)
      have qb := eqNode_eq _ (toT b) (toT b) (Nat.le_refl _) (by omega) k (by omega)
      rw [ta, tb] at sa ia
      rw [ta] at qa
      rw [tb] at qb
      simp only at sa ia qa qb
      rw [if_neg h']
      simp only [toNode_eq na a ga (by omega) k (by omega), toNode_eq nb b gb (by omega) k (by omega), Option.bind_some, sa, ia, qa, qb]
      have dt : dec True = true := dec_true trivial
      simp [dt]
end Go.Proofs.Ytnbnpgjgibcmpaa.Pure
