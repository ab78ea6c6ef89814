-- Made by drive.py (a program of this session) over the kit's print; not written line by line by a hand.
import Derived.Test.YtjkanclhlnojhaaP_laws_FnExactMetricOk
import Derived.Test.YtjkanclhlnojhaaO
namespace Go.Proofs.Ytjkanclhlnojhaa.St
open Go.RowKit Go.Proofs.Ytjkanclhlnojhaa.P Go.Proofs.YtjkanclhlnojhaaW.PrintWords Go.Proofs.Ytjkanclhlnojhaa.O
def laws_FnExactMetricOk.Pure : Prop := ∀ (x0 : S32), good32 x0 → ∃ k, laws_FnExactMetricOk.f k x0.f0 x0.f1 x0.f2 = some true
end Go.Proofs.Ytjkanclhlnojhaa.St
