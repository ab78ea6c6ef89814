-- Made by drive.py (a program of this session) over the kit's print; not written line by line by a hand.
import Derived.Test.YtjkanclhlnojhaaP_stringslite_HasSuffix
namespace Go.Proofs.Ytjkanclhlnojhaa.St
open Go.RowKit Go.Proofs.Ytjkanclhlnojhaa.P Go.Proofs.YtjkanclhlnojhaaW.PrintWords
def laws_FnExactAmountOf.Pure : Prop := ∀ (a0 : ByteArray), a0.size ≤ 140737488351232 → ∃ k, laws_FnExactAmountOf.f k a0 = some true
end Go.Proofs.Ytjkanclhlnojhaa.St
