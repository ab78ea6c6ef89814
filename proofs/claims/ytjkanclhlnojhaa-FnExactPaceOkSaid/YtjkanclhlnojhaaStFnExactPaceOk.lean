-- Made by drive.py (a program of this session) over the kit's print; not written line by line by a hand.
import Derived.Test.YtjkanclhlnojhaaP_laws_FnExactPaceOk
import Derived.Test.YtjkanclhlnojhaaO
namespace Go.Proofs.Ytjkanclhlnojhaa.St
open Go.RowKit Go.Proofs.Ytjkanclhlnojhaa.P Go.Proofs.YtjkanclhlnojhaaW.PrintWords Go.Proofs.Ytjkanclhlnojhaa.O
def laws_FnExactPaceOk.Pure : Prop := ∀ (x0 : S23), good23 x0 → laws_FnExactPaceOk.f x0.f0 x0.f1 x0.f2 x0.f3 = some true
end Go.Proofs.Ytjkanclhlnojhaa.St
