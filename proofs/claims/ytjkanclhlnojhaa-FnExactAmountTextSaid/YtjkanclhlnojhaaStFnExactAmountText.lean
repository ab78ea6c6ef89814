-- Made by drive.py (a program of this session) over the kit's print; not written line by line by a hand.
import Derived.Test.YtjkanclhlnojhaaP_laws_FnExactAmountText
namespace Go.Proofs.Ytjkanclhlnojhaa.St
open Go.RowKit Go.Proofs.Ytjkanclhlnojhaa.P Go.Proofs.YtjkanclhlnojhaaW.PrintWords
def laws_FnExactAmountText.Pure : Prop := ∀ (a0 : Int), (Lit.int .i64 a0).wf = true → ∃ k, laws_FnExactAmountText.f k a0 = some true
end Go.Proofs.Ytjkanclhlnojhaa.St
