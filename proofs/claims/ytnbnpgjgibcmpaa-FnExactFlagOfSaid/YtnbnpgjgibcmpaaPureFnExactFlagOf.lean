/- FnExactFlagOf: the program's FlagOf returns what the reference's returns, for all arguments; its answer owns its memory. No condition. -/
import Derived.Test.YtnbnpgjgibcmpaaLeaf
import Derived.Test.YtnbnpgjgibcmpaaP_laws_FnExactFlagOf
import Derived.Test.YtnbnpgjgibcmpaaStFnExactFlagOf
namespace Go.Proofs.Ytnbnpgjgibcmpaa.Pure
open Go.RowKit Go.Proofs.Ytnbnpgjgibcmpaa.P Go.Proofs.Ytnbnpgjgibcmpaa.M Go.Proofs.YtnbnpgjgibcmpaaW.PrintWords

theorem FnExactFlagOf : St.laws_FnExactFlagOf.Pure := by
  intro a
  refine ⟨5, ?_⟩
  cases a <;> simp only [laws_FnExactFlagOf.f, spec_FlagOf.f, spec_l1Bit.f, impl_FlagOf.f, Option.bind_some, if_true, Bool.false_eq_true, if_false, eqLeaf, heldLeaf, markLeaf] <;> simp
end Go.Proofs.Ytnbnpgjgibcmpaa.Pure
