/- FnExactIntOf: the program's IntOf returns what the reference's returns, for all arguments; its answer owns its memory. No condition. -/
import Derived.Test.YtnbnpgjgibcmpaaLeaf
import Derived.Test.YtnbnpgjgibcmpaaP_laws_FnExactIntOf
import Derived.Test.YtnbnpgjgibcmpaaStFnExactIntOf
namespace Go.Proofs.Ytnbnpgjgibcmpaa.Pure
open Go.RowKit Go.Proofs.Ytnbnpgjgibcmpaa.P Go.Proofs.Ytnbnpgjgibcmpaa.M Go.Proofs.YtnbnpgjgibcmpaaW.PrintWords

theorem FnExactIntOf : St.laws_FnExactIntOf.Pure := by
  intro a _
  refine ⟨5, ?_⟩
  simp only [laws_FnExactIntOf.f, spec_IntOf.f, impl_IntOf.f, Option.bind_some, eqLeaf, heldLeaf, markLeaf]
  simp
end Go.Proofs.Ytnbnpgjgibcmpaa.Pure
