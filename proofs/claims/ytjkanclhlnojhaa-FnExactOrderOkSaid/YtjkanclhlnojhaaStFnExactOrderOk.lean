-- Made by drive.py (a program of this session) over the kit's print; not written line by line by a hand.
import Derived.Test.YtjkanclhlnojhaaP_laws_FnExactOrderOk
import Derived.Test.YtjkanclhlnojhaaO
namespace Go.Proofs.Ytjkanclhlnojhaa.St
open Go.RowKit Go.Proofs.Ytjkanclhlnojhaa.P Go.Proofs.YtjkanclhlnojhaaW.PrintWords Go.Proofs.Ytjkanclhlnojhaa.O
def laws_FnExactOrderOk.Pure : Prop := ∀ (x0 : S60), good60 x0 → ∃ k, laws_FnExactOrderOk.f k x0.f0 x0.f1 x0.f2 x0.f3 x0.f4 x0.f5.f0 x0.f5.f1 x0.f5.f2 x0.f5.f3 x0.f6 = some true
end Go.Proofs.Ytjkanclhlnojhaa.St
