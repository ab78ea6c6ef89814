-- Made by drive.py (a program of this session) over the kit's print; not written line by line by a hand.
import Derived.Test.YtnbnpgjgibcmpaaP_laws_FnExactIntOf
namespace Go.Proofs.Ytnbnpgjgibcmpaa.St
open Go.RowKit Go.Proofs.Ytnbnpgjgibcmpaa.P Go.Proofs.YtnbnpgjgibcmpaaW.PrintWords
def laws_FnExactIntOf.Pure : Prop := ∀ (a0 : Int), (Lit.int .i64 a0).wf = true → ∃ k, laws_FnExactIntOf.f k a0 = some true
end Go.Proofs.Ytnbnpgjgibcmpaa.St
