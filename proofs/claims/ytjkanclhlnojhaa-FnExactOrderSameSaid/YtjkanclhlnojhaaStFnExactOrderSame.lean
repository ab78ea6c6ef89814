-- Made by drive.py (a program of this session) over the kit's print; not written line by line by a hand.
import Derived.Test.YtjkanclhlnojhaaP_laws_FnExactOrderSame
import Derived.Test.YtjkanclhlnojhaaO
namespace Go.Proofs.Ytjkanclhlnojhaa.St
open Go.RowKit Go.Proofs.Ytjkanclhlnojhaa.P Go.Proofs.YtjkanclhlnojhaaW.PrintWords Go.Proofs.Ytjkanclhlnojhaa.O
def laws_FnExactOrderSame.Pure : Prop := ∀ (x0 : S60) (x1 : S60), good60 x0 → good60 x1 → ∃ k, laws_FnExactOrderSame.f k x0.f0 x0.f1 x0.f2 x0.f3 x0.f4 x0.f5.f0 x0.f5.f1 x0.f5.f2 x0.f5.f3 x0.f6 x1.f0 x1.f1 x1.f2 x1.f3 x1.f4 x1.f5.f0 x1.f5.f1 x1.f5.f2 x1.f5.f3 x1.f6 = some true
end Go.Proofs.Ytjkanclhlnojhaa.St
