-- PRINTED BY print.sh 35421559b90ae4d0a3588c463048766b98c2df88dd9212a6774a882060cdf62d: not written by this session
import Derived.Test.YtnbnpgjgibcmpaaWInv
import Derived.Test.YtnbnpgjgibcmpaaWFootNe
namespace Go.Proofs.YtnbnpgjgibcmpaaW.PrintWords
open Go.RowKit
end Go.Proofs.YtnbnpgjgibcmpaaW.PrintWords
namespace Go.Proofs.YtnbnpgjgibcmpaaW.PrintLast
section
variable {ops : Array Oper} {a : Act} {o og : Oper} {g : Nat} {t : Tmp} {u : Bool}
end
end Go.Proofs.YtnbnpgjgibcmpaaW.PrintLast
