-- Made by drive.py (a program of this session) over the kit's print; not written line by line by a hand.
import Derived.Test.YtnbnpgjgibcmpaaP_laws_FnExactFlagOf
namespace Go.Proofs.Ytnbnpgjgibcmpaa.St
open Go.RowKit Go.Proofs.Ytnbnpgjgibcmpaa.P Go.Proofs.YtnbnpgjgibcmpaaW.PrintWords
def laws_FnExactFlagOf.Pure : Prop := ∀ (a0 : Bool), ∃ k, laws_FnExactFlagOf.f k a0 = some true
end Go.Proofs.Ytnbnpgjgibcmpaa.St
