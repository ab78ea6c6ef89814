-- Made by drive.py (a program of this session) over the kit's print; not written line by line by a hand.
import Derived.Test.YtnbnpgjgibcmpaaP_laws_FnExactInline
import Derived.Test.YtnbnpgjgibcmpaaO
namespace Go.Proofs.Ytnbnpgjgibcmpaa.St
open Go.RowKit Go.Proofs.Ytnbnpgjgibcmpaa.P Go.Proofs.YtnbnpgjgibcmpaaW.PrintWords Go.Proofs.Ytnbnpgjgibcmpaa.O
def laws_FnExactInline.Pure : Prop := ∀ (x0 : S36), good36 x0 → ∃ k, laws_FnExactInline.f k x0.f0 x0.f1 x0.f2 x0.f3 x0.f4 = some true
end Go.Proofs.Ytnbnpgjgibcmpaa.St
