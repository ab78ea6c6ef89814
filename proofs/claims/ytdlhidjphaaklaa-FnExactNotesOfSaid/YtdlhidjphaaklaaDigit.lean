/- Which bytes are digits. -/
import Derived.Test.YtdlhidjphaaklaaAid
import Derived.Test.YtdlhidjphaaklaaBytes
import Derived.Test.YtdlhidjphaaklaaP_impl_isLetter
namespace Go.Proofs.Ytdlhidjphaaklaa.M
open Go.RowKit Go.Proofs.Ytdlhidjphaaklaa.P Go.Proofs.YtdlhidjphaaklaaW.PrintWords

theorem isDigit_eq (c : Int) : impl_isDigit.f c = some (digB c) := l1In_eq c 48 57
end Go.Proofs.Ytdlhidjphaaklaa.M
