-- Made by drive.py (a program of this session) over the kit's print; not written line by line by a hand.
import Derived.Test.YtnbnpgjgibcmpaaP_laws_FnExactTextOf
namespace Go.Proofs.Ytnbnpgjgibcmpaa.St
open Go.RowKit Go.Proofs.Ytnbnpgjgibcmpaa.P Go.Proofs.YtnbnpgjgibcmpaaW.PrintWords
def laws_FnExactTextOf.Pure : Prop := ∀ (a0 : ByteArray), a0.size ≤ 140737488351232 → ∃ k, laws_FnExactTextOf.f k a0 = some true
end Go.Proofs.Ytnbnpgjgibcmpaa.St
