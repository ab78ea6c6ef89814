/-
  No cell of these rows narrows 'for every input' (looked for: loops, veiled, ifaces, maps, wideKeys, modest, calm, conditions, laid).
  DERIVED. THE GIVEN ROWS OF THIS SEAT. 12 by the template 'for every input the law returns true; each argument reads behind the call as it read before'; 0 by the template 'total and deterministic' (their statements: YtedcaojahfmgnaaTotals.lean).
  GIVEN WITH THE SEED: the statements are not yours to turn. If you find one false, say at which input.
  Laid BY PROGRAM, IN A SANDBOX (cutbox-rows.mjs): the forced cells as the released guide's own fill.sh prints them over the translation 776e21a41aaac932… (all of the seat's roots in one cut). By AI agents, Wed Nov 11 2026. No macro, syntax, notation, axiom, sorry.
-/
import Derived.Test.YtedcaojahfmgnaaChecked
import GoSem.Claim
import GoSem.ClaimJoined
import GoSem.ClaimMapViews
import Derived.JoinedTies
import Derived.KernelRfl
namespace Go.Proofs.Ytedcaojahfmgnaa
/- THE CELL 'sum', in the pinned program and in every row, IS THE sha256 OF THE DUMP (.gsa) THAT YtedcaojahfmgnaaProg.lean LOADS. Nothing in Lean hashes anything: it is a label: what it is worth is what the hold of that sum in a sandbox is worth. -/
noncomputable def Try.pinned : Pinned := { name := "ytedcaojahfmgnaa", sum := "776e21a41aaac932b6bef49c4892e54410009a5029beb2eca24bc1e1fe750e3b", checked := Try.checked }
namespace Rows
def none {H : Type} : Left H := { results := [], args := [] }

/-- 'laws.FnExactConstants': WHATEVER THE INPUT: true; the input reads as it did. -/
def fnExactConstantsSpec : ChangeSpec := { name := "fnExactConstants", fn := fun _ => fun
  | [] => { results := [.lit (.bool true)], args := [] }
  | _ => none }
def fnExactConstantsRow : OpenClaim := { program := "ytedcaojahfmgnaa", sum := "776e21a41aaac932b6bef49c4892e54410009a5029beb2eca24bc1e1fe750e3b", func := "loop.example/g00465/laws.FnExactConstants", spec := "fnExactConstants", apart := false }
def FnExactConstantsSaid : Prop := fnExactConstantsRow.holds Try.pinned (OpenSpec.ofChange fnExactConstantsSpec)

/-- ITS FALSE NEIGHBOUR: 'it returns false'. Refute it at one input. -/
def fnExactConstantsWrong : ChangeSpec := { name := "fnExactConstants", fn := fun _ => fun
  | [] => { results := [.lit (.bool false)], args := [] }
  | _ => none }
def FnExactConstantsWrongFalsely : Prop := fnExactConstantsRow.holds Try.pinned (OpenSpec.ofChange fnExactConstantsWrong)

/-- 'laws.FnExactCeilDiv': WHATEVER THE INPUT: true; the input reads as it did. -/
def fnExactCeilDivSpec : ChangeSpec := { name := "fnExactCeilDiv", fn := fun _ => fun
  | [d1, d2] => { results := [.lit (.bool true)], args := [d1, d2] }
  | _ => none }
def fnExactCeilDivRow : OpenClaim := { program := "ytedcaojahfmgnaa", sum := "776e21a41aaac932b6bef49c4892e54410009a5029beb2eca24bc1e1fe750e3b", func := "loop.example/g00465/laws.FnExactCeilDiv", spec := "fnExactCeilDiv", apart := false }
def FnExactCeilDivSaid : Prop := fnExactCeilDivRow.holds Try.pinned (OpenSpec.ofChange fnExactCeilDivSpec)

/-- ITS FALSE NEIGHBOUR: 'it returns false'. Refute it at one input. -/
def fnExactCeilDivWrong : ChangeSpec := { name := "fnExactCeilDiv", fn := fun _ => fun
  | [d1, d2] => { results := [.lit (.bool false)], args := [d1, d2] }
  | _ => none }
def FnExactCeilDivWrongFalsely : Prop := fnExactCeilDivRow.holds Try.pinned (OpenSpec.ofChange fnExactCeilDivWrong)

/-- 'laws.FnExactPaceNew': WHATEVER THE INPUT: true; the input reads as it did. -/
def fnExactPaceNewSpec : ChangeSpec := { name := "fnExactPaceNew", fn := fun _ => fun
  | [] => { results := [.lit (.bool true)], args := [] }
  | _ => none }
def fnExactPaceNewRow : OpenClaim := { program := "ytedcaojahfmgnaa", sum := "776e21a41aaac932b6bef49c4892e54410009a5029beb2eca24bc1e1fe750e3b", func := "loop.example/g00465/laws.FnExactPaceNew", spec := "fnExactPaceNew", apart := false }
def FnExactPaceNewSaid : Prop := fnExactPaceNewRow.holds Try.pinned (OpenSpec.ofChange fnExactPaceNewSpec)

/-- ITS FALSE NEIGHBOUR: 'it returns false'. Refute it at one input. -/
def fnExactPaceNewWrong : ChangeSpec := { name := "fnExactPaceNew", fn := fun _ => fun
  | [] => { results := [.lit (.bool false)], args := [] }
  | _ => none }
def FnExactPaceNewWrongFalsely : Prop := fnExactPaceNewRow.holds Try.pinned (OpenSpec.ofChange fnExactPaceNewWrong)

/-- 'laws.FnExactTextOk': WHATEVER THE INPUT: true; the input reads as it did. -/
def fnExactTextOkSpec : ChangeSpec := { name := "fnExactTextOk", fn := fun _ => fun
  | [d] => { results := [.lit (.bool true)], args := [d] }
  | _ => none }
def fnExactTextOkRow : OpenClaim := { program := "ytedcaojahfmgnaa", sum := "776e21a41aaac932b6bef49c4892e54410009a5029beb2eca24bc1e1fe750e3b", func := "loop.example/g00465/laws.FnExactTextOk", spec := "fnExactTextOk", apart := false }
def FnExactTextOkSaid : Prop := fnExactTextOkRow.holds Try.pinned (OpenSpec.ofChange fnExactTextOkSpec)

/-- ITS FALSE NEIGHBOUR: 'it returns false'. Refute it at one input. -/
def fnExactTextOkWrong : ChangeSpec := { name := "fnExactTextOk", fn := fun _ => fun
  | [d] => { results := [.lit (.bool false)], args := [d] }
  | _ => none }
def FnExactTextOkWrongFalsely : Prop := fnExactTextOkRow.holds Try.pinned (OpenSpec.ofChange fnExactTextOkWrong)

/-- 'laws.FnExactPaceOk': WHATEVER THE INPUT: true; the input reads as it did. -/
def fnExactPaceOkSpec : ChangeSpec := { name := "fnExactPaceOk", fn := fun _ => fun
  | [d] => { results := [.lit (.bool true)], args := [d] }
  | _ => none }
def fnExactPaceOkRow : OpenClaim := { program := "ytedcaojahfmgnaa", sum := "776e21a41aaac932b6bef49c4892e54410009a5029beb2eca24bc1e1fe750e3b", func := "loop.example/g00465/laws.FnExactPaceOk", spec := "fnExactPaceOk", apart := false }
def FnExactPaceOkSaid : Prop := fnExactPaceOkRow.holds Try.pinned (OpenSpec.ofChange fnExactPaceOkSpec)

/-- ITS FALSE NEIGHBOUR: 'it returns false'. Refute it at one input. -/
def fnExactPaceOkWrong : ChangeSpec := { name := "fnExactPaceOk", fn := fun _ => fun
  | [d] => { results := [.lit (.bool false)], args := [d] }
  | _ => none }
def FnExactPaceOkWrongFalsely : Prop := fnExactPaceOkRow.holds Try.pinned (OpenSpec.ofChange fnExactPaceOkWrong)

/-- 'laws.FnExactClamp': WHATEVER THE INPUT: true; the input reads as it did. -/
def fnExactClampSpec : ChangeSpec := { name := "fnExactClamp", fn := fun _ => fun
  | [d1, d2, d3] => { results := [.lit (.bool true)], args := [d1, d2, d3] }
  | _ => none }
def fnExactClampRow : OpenClaim := { program := "ytedcaojahfmgnaa", sum := "776e21a41aaac932b6bef49c4892e54410009a5029beb2eca24bc1e1fe750e3b", func := "loop.example/g00465/laws.FnExactClamp", spec := "fnExactClamp", apart := false }
def FnExactClampSaid : Prop := fnExactClampRow.holds Try.pinned (OpenSpec.ofChange fnExactClampSpec)

/-- ITS FALSE NEIGHBOUR: 'it returns false'. Refute it at one input. -/
def fnExactClampWrong : ChangeSpec := { name := "fnExactClamp", fn := fun _ => fun
  | [d1, d2, d3] => { results := [.lit (.bool false)], args := [d1, d2, d3] }
  | _ => none }
def FnExactClampWrongFalsely : Prop := fnExactClampRow.holds Try.pinned (OpenSpec.ofChange fnExactClampWrong)

/-- 'laws.FnExactNameOk': WHATEVER THE INPUT: true; the input reads as it did. -/
def fnExactNameOkSpec : ChangeSpec := { name := "fnExactNameOk", fn := fun _ => fun
  | [d] => { results := [.lit (.bool true)], args := [d] }
  | _ => none }
def fnExactNameOkRow : OpenClaim := { program := "ytedcaojahfmgnaa", sum := "776e21a41aaac932b6bef49c4892e54410009a5029beb2eca24bc1e1fe750e3b", func := "loop.example/g00465/laws.FnExactNameOk", spec := "fnExactNameOk", apart := false }
def FnExactNameOkSaid : Prop := fnExactNameOkRow.holds Try.pinned (OpenSpec.ofChange fnExactNameOkSpec)

/-- ITS FALSE NEIGHBOUR: 'it returns false'. Refute it at one input. -/
def fnExactNameOkWrong : ChangeSpec := { name := "fnExactNameOk", fn := fun _ => fun
  | [d] => { results := [.lit (.bool false)], args := [d] }
  | _ => none }
def FnExactNameOkWrongFalsely : Prop := fnExactNameOkRow.holds Try.pinned (OpenSpec.ofChange fnExactNameOkWrong)

/-- 'laws.FnExactPlainOk': WHATEVER THE INPUT: true; the input reads as it did. -/
def fnExactPlainOkSpec : ChangeSpec := { name := "fnExactPlainOk", fn := fun _ => fun
  | [d] => { results := [.lit (.bool true)], args := [d] }
  | _ => none }
def fnExactPlainOkRow : OpenClaim := { program := "ytedcaojahfmgnaa", sum := "776e21a41aaac932b6bef49c4892e54410009a5029beb2eca24bc1e1fe750e3b", func := "loop.example/g00465/laws.FnExactPlainOk", spec := "fnExactPlainOk", inPlace := ["internal/bytealg.IndexByteString"], apart := false }
def FnExactPlainOkSaid : Prop := fnExactPlainOkRow.holds Try.pinned (OpenSpec.ofChange fnExactPlainOkSpec)

/-- ITS FALSE NEIGHBOUR: 'it returns false'. Refute it at one input. -/
def fnExactPlainOkWrong : ChangeSpec := { name := "fnExactPlainOk", fn := fun _ => fun
  | [d] => { results := [.lit (.bool false)], args := [d] }
  | _ => none }
def FnExactPlainOkWrongFalsely : Prop := fnExactPlainOkRow.holds Try.pinned (OpenSpec.ofChange fnExactPlainOkWrong)

/-- 'laws.FnExactDigits': WHATEVER THE INPUT: true; the input reads as it did. -/
def fnExactDigitsSpec : ChangeSpec := { name := "fnExactDigits", fn := fun _ => fun
  | [d] => { results := [.lit (.bool true)], args := [d] }
  | _ => none }
def fnExactDigitsRow : OpenClaim := { program := "ytedcaojahfmgnaa", sum := "776e21a41aaac932b6bef49c4892e54410009a5029beb2eca24bc1e1fe750e3b", func := "loop.example/g00465/laws.FnExactDigits", spec := "fnExactDigits", recurses := true, apart := false }
def FnExactDigitsSaid : Prop := fnExactDigitsRow.holds Try.pinned (OpenSpec.ofChange fnExactDigitsSpec)

/-- ITS FALSE NEIGHBOUR: 'it returns false'. Refute it at one input. -/
def fnExactDigitsWrong : ChangeSpec := { name := "fnExactDigits", fn := fun _ => fun
  | [d] => { results := [.lit (.bool false)], args := [d] }
  | _ => none }
def FnExactDigitsWrongFalsely : Prop := fnExactDigitsRow.holds Try.pinned (OpenSpec.ofChange fnExactDigitsWrong)

/-- 'laws.FnExactMetricOk': WHATEVER THE INPUT: true; the input reads as it did. -/
def fnExactMetricOkSpec : ChangeSpec := { name := "fnExactMetricOk", fn := fun _ => fun
  | [d] => { results := [.lit (.bool true)], args := [d] }
  | _ => none }
def fnExactMetricOkRow : OpenClaim := { program := "ytedcaojahfmgnaa", sum := "776e21a41aaac932b6bef49c4892e54410009a5029beb2eca24bc1e1fe750e3b", func := "loop.example/g00465/laws.FnExactMetricOk", spec := "fnExactMetricOk", apart := false }
def FnExactMetricOkSaid : Prop := fnExactMetricOkRow.holds Try.pinned (OpenSpec.ofChange fnExactMetricOkSpec)

/-- ITS FALSE NEIGHBOUR: 'it returns false'. Refute it at one input. -/
def fnExactMetricOkWrong : ChangeSpec := { name := "fnExactMetricOk", fn := fun _ => fun
  | [d] => { results := [.lit (.bool false)], args := [d] }
  | _ => none }
def FnExactMetricOkWrongFalsely : Prop := fnExactMetricOkRow.holds Try.pinned (OpenSpec.ofChange fnExactMetricOkWrong)

/-- 'laws.FnExactQuote': WHATEVER THE INPUT: true; the input reads as it did. -/
def fnExactQuoteSpec : ChangeSpec := { name := "fnExactQuote", fn := fun _ => fun
  | [d] => { results := [.lit (.bool true)], args := [d] }
  | _ => none }
def fnExactQuoteRow : OpenClaim := { program := "ytedcaojahfmgnaa", sum := "776e21a41aaac932b6bef49c4892e54410009a5029beb2eca24bc1e1fe750e3b", func := "loop.example/g00465/laws.FnExactQuote", spec := "fnExactQuote", apart := false }
def FnExactQuoteSaid : Prop := fnExactQuoteRow.holds Try.pinned (OpenSpec.ofChange fnExactQuoteSpec)

/-- ITS FALSE NEIGHBOUR: 'it returns false'. Refute it at one input. -/
def fnExactQuoteWrong : ChangeSpec := { name := "fnExactQuote", fn := fun _ => fun
  | [d] => { results := [.lit (.bool false)], args := [d] }
  | _ => none }
def FnExactQuoteWrongFalsely : Prop := fnExactQuoteRow.holds Try.pinned (OpenSpec.ofChange fnExactQuoteWrong)

/-- 'laws.FnExactSpanText': WHATEVER THE INPUT: true; the input reads as it did. -/
def fnExactSpanTextSpec : ChangeSpec := { name := "fnExactSpanText", fn := fun _ => fun
  | [d] => { results := [.lit (.bool true)], args := [d] }
  | _ => none }
def fnExactSpanTextRow : OpenClaim := { program := "ytedcaojahfmgnaa", sum := "776e21a41aaac932b6bef49c4892e54410009a5029beb2eca24bc1e1fe750e3b", func := "loop.example/g00465/laws.FnExactSpanText", spec := "fnExactSpanText", recurses := true, apart := false }
def FnExactSpanTextSaid : Prop := fnExactSpanTextRow.holds Try.pinned (OpenSpec.ofChange fnExactSpanTextSpec)

/-- ITS FALSE NEIGHBOUR: 'it returns false'. Refute it at one input. -/
def fnExactSpanTextWrong : ChangeSpec := { name := "fnExactSpanText", fn := fun _ => fun
  | [d] => { results := [.lit (.bool false)], args := [d] }
  | _ => none }
def FnExactSpanTextWrongFalsely : Prop := fnExactSpanTextRow.holds Try.pinned (OpenSpec.ofChange fnExactSpanTextWrong)

/- THE SECOND FORM. 'bulk': how many values and letters a reading holds, each counted each time it is reached (what is shared counts as often as it is met; a slice's spare places count too). A statement '..UptoSaid' is the law's where the arguments, and the package variables that the reading takes, are together of bulk at most 1048576: NARROWER than '..Said'. Prove '..Said' where nothing that the law and all that it calls make is longer than what came in: it says more and counts as full. Else prove '..UptoSaid'. A law counts once. -/
mutual
def uptoBulk {H : Type} : DataW H → Nat
  | .lit (.string bytes) => bytes.length + 1
  | .lit _ => 1
  | .nil => 1
  | .ptr d => uptoBulk d + 1
  | .slice elems spare => uptoBulkAll elems + uptoBulkAll spare + 1
  | .agg parts => uptoBulkAll parts + 1
  | .iface _ d => uptoBulk d + 1
  | .map entries => uptoBulkEntries entries + 1
  | .held _ => 1
def uptoBulkAll {H : Type} : List (DataW H) → Nat
  | [] => 0
  | d :: r => uptoBulk d + uptoBulkAll r
def uptoBulkEntries {H : Type} : List (Lit × DataW H) → Nat
  | [] => 0
  | x :: r => uptoBulkEntry x + uptoBulkEntries r
def uptoBulkEntry {H : Type} : Lit × DataW H → Nat
  | (.string bytes, d) => bytes.length + uptoBulk d + 1
  | (_, d) => uptoBulk d + 1
 end
def uptoSmall : (H : Type) → List (DataW H) → Bool := fun _ ds => decide (uptoBulkAll ds ≤ 1048576)
def OpenSpec.upto (s : _root_.Go.ChangeSpec) : _root_.Go.OpenSpec := { _root_.Go.OpenSpec.ofChange s with cond := some uptoSmall }

/-- 'laws.FnExactConstants', WHERE WHAT IT READS IS OF BULK AT MOST 1048576: true; the input reads as it did. -/
def fnExactConstantsUptoRow : OpenClaim := { program := "ytedcaojahfmgnaa", sum := "776e21a41aaac932b6bef49c4892e54410009a5029beb2eca24bc1e1fe750e3b", func := "loop.example/g00465/laws.FnExactConstants", spec := "fnExactConstants", apart := false, narrowed := true }
def FnExactConstantsUptoSaid : Prop := fnExactConstantsUptoRow.holds Try.pinned (OpenSpec.upto fnExactConstantsSpec)

/-- 'laws.FnExactCeilDiv', WHERE WHAT IT READS IS OF BULK AT MOST 1048576: true; the input reads as it did. -/
def fnExactCeilDivUptoRow : OpenClaim := { program := "ytedcaojahfmgnaa", sum := "776e21a41aaac932b6bef49c4892e54410009a5029beb2eca24bc1e1fe750e3b", func := "loop.example/g00465/laws.FnExactCeilDiv", spec := "fnExactCeilDiv", apart := false, narrowed := true }
def FnExactCeilDivUptoSaid : Prop := fnExactCeilDivUptoRow.holds Try.pinned (OpenSpec.upto fnExactCeilDivSpec)

/-- 'laws.FnExactPaceNew', WHERE WHAT IT READS IS OF BULK AT MOST 1048576: true; the input reads as it did. -/
def fnExactPaceNewUptoRow : OpenClaim := { program := "ytedcaojahfmgnaa", sum := "776e21a41aaac932b6bef49c4892e54410009a5029beb2eca24bc1e1fe750e3b", func := "loop.example/g00465/laws.FnExactPaceNew", spec := "fnExactPaceNew", apart := false, narrowed := true }
def FnExactPaceNewUptoSaid : Prop := fnExactPaceNewUptoRow.holds Try.pinned (OpenSpec.upto fnExactPaceNewSpec)

/-- 'laws.FnExactTextOk', WHERE WHAT IT READS IS OF BULK AT MOST 1048576: true; the input reads as it did. -/
def fnExactTextOkUptoRow : OpenClaim := { program := "ytedcaojahfmgnaa", sum := "776e21a41aaac932b6bef49c4892e54410009a5029beb2eca24bc1e1fe750e3b", func := "loop.example/g00465/laws.FnExactTextOk", spec := "fnExactTextOk", apart := false, narrowed := true }
def FnExactTextOkUptoSaid : Prop := fnExactTextOkUptoRow.holds Try.pinned (OpenSpec.upto fnExactTextOkSpec)

/-- 'laws.FnExactPaceOk', WHERE WHAT IT READS IS OF BULK AT MOST 1048576: true; the input reads as it did. -/
def fnExactPaceOkUptoRow : OpenClaim := { program := "ytedcaojahfmgnaa", sum := "776e21a41aaac932b6bef49c4892e54410009a5029beb2eca24bc1e1fe750e3b", func := "loop.example/g00465/laws.FnExactPaceOk", spec := "fnExactPaceOk", apart := false, narrowed := true }
def FnExactPaceOkUptoSaid : Prop := fnExactPaceOkUptoRow.holds Try.pinned (OpenSpec.upto fnExactPaceOkSpec)

/-- 'laws.FnExactClamp', WHERE WHAT IT READS IS OF BULK AT MOST 1048576: true; the input reads as it did. -/
def fnExactClampUptoRow : OpenClaim := { program := "ytedcaojahfmgnaa", sum := "776e21a41aaac932b6bef49c4892e54410009a5029beb2eca24bc1e1fe750e3b", func := "loop.example/g00465/laws.FnExactClamp", spec := "fnExactClamp", apart := false, narrowed := true }
def FnExactClampUptoSaid : Prop := fnExactClampUptoRow.holds Try.pinned (OpenSpec.upto fnExactClampSpec)

/-- 'laws.FnExactNameOk', WHERE WHAT IT READS IS OF BULK AT MOST 1048576: true; the input reads as it did. -/
def fnExactNameOkUptoRow : OpenClaim := { program := "ytedcaojahfmgnaa", sum := "776e21a41aaac932b6bef49c4892e54410009a5029beb2eca24bc1e1fe750e3b", func := "loop.example/g00465/laws.FnExactNameOk", spec := "fnExactNameOk", apart := false, narrowed := true }
def FnExactNameOkUptoSaid : Prop := fnExactNameOkUptoRow.holds Try.pinned (OpenSpec.upto fnExactNameOkSpec)

/-- 'laws.FnExactPlainOk', WHERE WHAT IT READS IS OF BULK AT MOST 1048576: true; the input reads as it did. -/
def fnExactPlainOkUptoRow : OpenClaim := { program := "ytedcaojahfmgnaa", sum := "776e21a41aaac932b6bef49c4892e54410009a5029beb2eca24bc1e1fe750e3b", func := "loop.example/g00465/laws.FnExactPlainOk", spec := "fnExactPlainOk", inPlace := ["internal/bytealg.IndexByteString"], apart := false, narrowed := true }
def FnExactPlainOkUptoSaid : Prop := fnExactPlainOkUptoRow.holds Try.pinned (OpenSpec.upto fnExactPlainOkSpec)

/-- 'laws.FnExactDigits', WHERE WHAT IT READS IS OF BULK AT MOST 1048576: true; the input reads as it did. -/
def fnExactDigitsUptoRow : OpenClaim := { program := "ytedcaojahfmgnaa", sum := "776e21a41aaac932b6bef49c4892e54410009a5029beb2eca24bc1e1fe750e3b", func := "loop.example/g00465/laws.FnExactDigits", spec := "fnExactDigits", recurses := true, apart := false, narrowed := true }
def FnExactDigitsUptoSaid : Prop := fnExactDigitsUptoRow.holds Try.pinned (OpenSpec.upto fnExactDigitsSpec)

/-- 'laws.FnExactMetricOk', WHERE WHAT IT READS IS OF BULK AT MOST 1048576: true; the input reads as it did. -/
def fnExactMetricOkUptoRow : OpenClaim := { program := "ytedcaojahfmgnaa", sum := "776e21a41aaac932b6bef49c4892e54410009a5029beb2eca24bc1e1fe750e3b", func := "loop.example/g00465/laws.FnExactMetricOk", spec := "fnExactMetricOk", apart := false, narrowed := true }
def FnExactMetricOkUptoSaid : Prop := fnExactMetricOkUptoRow.holds Try.pinned (OpenSpec.upto fnExactMetricOkSpec)

/-- 'laws.FnExactQuote', WHERE WHAT IT READS IS OF BULK AT MOST 1048576: true; the input reads as it did. -/
def fnExactQuoteUptoRow : OpenClaim := { program := "ytedcaojahfmgnaa", sum := "776e21a41aaac932b6bef49c4892e54410009a5029beb2eca24bc1e1fe750e3b", func := "loop.example/g00465/laws.FnExactQuote", spec := "fnExactQuote", apart := false, narrowed := true }
def FnExactQuoteUptoSaid : Prop := fnExactQuoteUptoRow.holds Try.pinned (OpenSpec.upto fnExactQuoteSpec)

/-- 'laws.FnExactSpanText', WHERE WHAT IT READS IS OF BULK AT MOST 1048576: true; the input reads as it did. -/
def fnExactSpanTextUptoRow : OpenClaim := { program := "ytedcaojahfmgnaa", sum := "776e21a41aaac932b6bef49c4892e54410009a5029beb2eca24bc1e1fe750e3b", func := "loop.example/g00465/laws.FnExactSpanText", spec := "fnExactSpanText", recurses := true, apart := false, narrowed := true }
def FnExactSpanTextUptoSaid : Prop := fnExactSpanTextUptoRow.holds Try.pinned (OpenSpec.upto fnExactSpanTextSpec)

end Rows
end Go.Proofs.Ytedcaojahfmgnaa
