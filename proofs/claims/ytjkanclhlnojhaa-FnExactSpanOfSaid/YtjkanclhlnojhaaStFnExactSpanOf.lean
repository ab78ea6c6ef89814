-- Made by drive.py (a program of this session) over the kit's print; not written line by line by a hand.
import Derived.Test.YtjkanclhlnojhaaP_spec_SpanOf
namespace Go.Proofs.Ytjkanclhlnojhaa.St
open Go.RowKit Go.Proofs.Ytjkanclhlnojhaa.P Go.Proofs.YtjkanclhlnojhaaW.PrintWords
def laws_FnExactSpanOf.Pure : Prop := ∀ (a0 : ByteArray), a0.size ≤ 140737488351232 → ∃ k, laws_FnExactSpanOf.f k a0 = some true
end Go.Proofs.Ytjkanclhlnojhaa.St
