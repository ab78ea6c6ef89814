-- Made by drive.py (a program of this session) over the kit's print; not written line by line by a hand.
import Derived.Test.YtdlhidjphaaklaaP_laws_FnExactPaceOf
import Derived.Test.YtdlhidjphaaklaaO
namespace Go.Proofs.Ytdlhidjphaaklaa.St
open Go.RowKit Go.Proofs.Ytdlhidjphaaklaa.P Go.Proofs.YtdlhidjphaaklaaW.PrintWords Go.Proofs.Ytdlhidjphaaklaa.O
def laws_FnExactPaceOf.Pure : Prop := ∀ (x0 : S25), good25 x0 → ∃ k, laws_FnExactPaceOf.f k x0.f0 x0.f1 x0.f2 x0.f3 x0.f4 = some true
end Go.Proofs.Ytdlhidjphaaklaa.St
