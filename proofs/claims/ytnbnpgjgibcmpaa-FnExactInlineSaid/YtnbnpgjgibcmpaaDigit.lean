/- Which bytes are digits. -/
import Derived.Test.YtnbnpgjgibcmpaaAid
import Derived.Test.YtnbnpgjgibcmpaaBytes
import Derived.Test.YtnbnpgjgibcmpaaP_spec_l5Letter
namespace Go.Proofs.Ytnbnpgjgibcmpaa.M
open Go.RowKit Go.Proofs.Ytnbnpgjgibcmpaa.P Go.Proofs.YtnbnpgjgibcmpaaW.PrintWords

theorem isDigit_eq (c : Int) : impl_isDigit.f c = some (digB c) := l1In_eq c 48 57
end Go.Proofs.Ytnbnpgjgibcmpaa.M
