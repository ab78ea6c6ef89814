/- FnExactTextOf: the program's TextOf returns what the reference's returns, for all arguments; its answer owns its memory. No condition. -/
import Derived.Test.YtnbnpgjgibcmpaaLeaf
import Derived.Test.YtnbnpgjgibcmpaaP_laws_FnExactTextOf
import Derived.Test.YtnbnpgjgibcmpaaStFnExactTextOf
namespace Go.Proofs.Ytnbnpgjgibcmpaa.Pure
open Go.RowKit Go.Proofs.Ytnbnpgjgibcmpaa.P Go.Proofs.Ytnbnpgjgibcmpaa.M Go.Proofs.YtnbnpgjgibcmpaaW.PrintWords

theorem FnExactTextOf : St.laws_FnExactTextOf.Pure := by
  intro a _
  refine ⟨5, ?_⟩
  simp only [laws_FnExactTextOf.f, spec_TextOf.f, impl_TextOf.f, Option.bind_some, eqLeaf, heldLeaf, markLeaf]
  simp
end Go.Proofs.Ytnbnpgjgibcmpaa.Pure
