-- Made by drive.py (a program of this session) over the kit's print; not written line by line by a hand.
import Derived.Test.YtjkanclhlnojhaaP_laws_FnAmounts
import Derived.Test.YtjkanclhlnojhaaO
namespace Go.Proofs.Ytjkanclhlnojhaa.St
open Go.RowKit Go.Proofs.Ytjkanclhlnojhaa.P Go.Proofs.YtjkanclhlnojhaaW.PrintWords Go.Proofs.Ytjkanclhlnojhaa.O
def laws_FnAmounts.Pure : Prop := ∀ (x0 : List Int), x0.length ≤ maxLen → (∀ y ∈ x0, (Lit.int .u8 y).wf = true) → ∃ k, laws_FnAmounts.f k x0 = some true
end Go.Proofs.Ytjkanclhlnojhaa.St
