/-
  No cell of these rows narrows 'for every input' (looked for: loops, veiled, ifaces, maps, wideKeys, modest, calm, conditions, laid).
  DERIVED. THE GIVEN ROWS OF THIS SEAT. 17 by the template 'for every input the law returns true; each argument reads behind the call as it read before'; 0 by the template 'total and deterministic' (their statements: YtjkanclhlnojhaaTotals.lean).
  GIVEN WITH THE SEED: the statements are not yours to turn. If you find one false, say at which input.
  Laid BY PROGRAM, IN A SANDBOX (cutbox-rows.mjs): the forced cells as the released guide's own fill.sh prints them over the translation f8ad4457c609d764… (all of the seat's roots in one cut). By AI agents, Wed Nov 11 2026. No macro, syntax, notation, axiom, sorry.
-/
import Derived.Test.YtjkanclhlnojhaaChecked
import GoSem.Claim
import GoSem.ClaimJoined
import GoSem.ClaimMapViews
import Derived.JoinedTies
import Derived.KernelRfl
namespace Go.Proofs.Ytjkanclhlnojhaa
/- THE CELL 'sum', in the pinned program and in every row, IS THE sha256 OF THE DUMP (.gsa) THAT YtjkanclhlnojhaaProg.lean LOADS. Nothing in Lean hashes anything: it is a label: what it is worth is what the hold of that sum in a sandbox is worth. -/
noncomputable def Try.pinned : Pinned := { name := "ytjkanclhlnojhaa", sum := "f8ad4457c609d76438dba9c36eaa513eb82bfed4d4519a2ec604abc52238ab6d", checked := Try.checked }
namespace Rows
def none {H : Type} : Left H := { results := [], args := [] }

/-- 'laws.FnExactPaceOk': WHATEVER THE INPUT: true; the input reads as it did. -/
def fnExactPaceOkSpec : ChangeSpec := { name := "fnExactPaceOk", fn := fun _ => fun
  | [d] => { results := [.lit (.bool true)], args := [d] }
  | _ => none }
def fnExactPaceOkRow : OpenClaim := { program := "ytjkanclhlnojhaa", sum := "f8ad4457c609d76438dba9c36eaa513eb82bfed4d4519a2ec604abc52238ab6d", func := "loop.example/g00465/laws.FnExactPaceOk", spec := "fnExactPaceOk", apart := false }
def FnExactPaceOkSaid : Prop := fnExactPaceOkRow.holds Try.pinned (OpenSpec.ofChange fnExactPaceOkSpec)

/-- ITS FALSE NEIGHBOUR: 'it returns false'. Refute it at one input. -/
def fnExactPaceOkWrong : ChangeSpec := { name := "fnExactPaceOk", fn := fun _ => fun
  | [d] => { results := [.lit (.bool false)], args := [d] }
  | _ => none }
def FnExactPaceOkWrongFalsely : Prop := fnExactPaceOkRow.holds Try.pinned (OpenSpec.ofChange fnExactPaceOkWrong)

/-- 'laws.FnExactNameOk': WHATEVER THE INPUT: true; the input reads as it did. -/
def fnExactNameOkSpec : ChangeSpec := { name := "fnExactNameOk", fn := fun _ => fun
  | [d] => { results := [.lit (.bool true)], args := [d] }
  | _ => none }
def fnExactNameOkRow : OpenClaim := { program := "ytjkanclhlnojhaa", sum := "f8ad4457c609d76438dba9c36eaa513eb82bfed4d4519a2ec604abc52238ab6d", func := "loop.example/g00465/laws.FnExactNameOk", spec := "fnExactNameOk", apart := false }
def FnExactNameOkSaid : Prop := fnExactNameOkRow.holds Try.pinned (OpenSpec.ofChange fnExactNameOkSpec)

/-- ITS FALSE NEIGHBOUR: 'it returns false'. Refute it at one input. -/
def fnExactNameOkWrong : ChangeSpec := { name := "fnExactNameOk", fn := fun _ => fun
  | [d] => { results := [.lit (.bool false)], args := [d] }
  | _ => none }
def FnExactNameOkWrongFalsely : Prop := fnExactNameOkRow.holds Try.pinned (OpenSpec.ofChange fnExactNameOkWrong)

/-- 'laws.FnExactPlainOk': WHATEVER THE INPUT: true; the input reads as it did. -/
def fnExactPlainOkSpec : ChangeSpec := { name := "fnExactPlainOk", fn := fun _ => fun
  | [d] => { results := [.lit (.bool true)], args := [d] }
  | _ => none }
def fnExactPlainOkRow : OpenClaim := { program := "ytjkanclhlnojhaa", sum := "f8ad4457c609d76438dba9c36eaa513eb82bfed4d4519a2ec604abc52238ab6d", func := "loop.example/g00465/laws.FnExactPlainOk", spec := "fnExactPlainOk", inPlace := ["internal/bytealg.IndexByteString"], apart := false }
def FnExactPlainOkSaid : Prop := fnExactPlainOkRow.holds Try.pinned (OpenSpec.ofChange fnExactPlainOkSpec)

/-- ITS FALSE NEIGHBOUR: 'it returns false'. Refute it at one input. -/
def fnExactPlainOkWrong : ChangeSpec := { name := "fnExactPlainOk", fn := fun _ => fun
  | [d] => { results := [.lit (.bool false)], args := [d] }
  | _ => none }
def FnExactPlainOkWrongFalsely : Prop := fnExactPlainOkRow.holds Try.pinned (OpenSpec.ofChange fnExactPlainOkWrong)

/-- 'laws.FnExactDigits': WHATEVER THE INPUT: true; the input reads as it did. -/
def fnExactDigitsSpec : ChangeSpec := { name := "fnExactDigits", fn := fun _ => fun
  | [d] => { results := [.lit (.bool true)], args := [d] }
  | _ => none }
def fnExactDigitsRow : OpenClaim := { program := "ytjkanclhlnojhaa", sum := "f8ad4457c609d76438dba9c36eaa513eb82bfed4d4519a2ec604abc52238ab6d", func := "loop.example/g00465/laws.FnExactDigits", spec := "fnExactDigits", recurses := true, apart := false }
def FnExactDigitsSaid : Prop := fnExactDigitsRow.holds Try.pinned (OpenSpec.ofChange fnExactDigitsSpec)

/-- ITS FALSE NEIGHBOUR: 'it returns false'. Refute it at one input. -/
def fnExactDigitsWrong : ChangeSpec := { name := "fnExactDigits", fn := fun _ => fun
  | [d] => { results := [.lit (.bool false)], args := [d] }
  | _ => none }
def FnExactDigitsWrongFalsely : Prop := fnExactDigitsRow.holds Try.pinned (OpenSpec.ofChange fnExactDigitsWrong)

/-- 'laws.FnExactMetricOk': WHATEVER THE INPUT: true; the input reads as it did. -/
def fnExactMetricOkSpec : ChangeSpec := { name := "fnExactMetricOk", fn := fun _ => fun
  | [d] => { results := [.lit (.bool true)], args := [d] }
  | _ => none }
def fnExactMetricOkRow : OpenClaim := { program := "ytjkanclhlnojhaa", sum := "f8ad4457c609d76438dba9c36eaa513eb82bfed4d4519a2ec604abc52238ab6d", func := "loop.example/g00465/laws.FnExactMetricOk", spec := "fnExactMetricOk", apart := false }
def FnExactMetricOkSaid : Prop := fnExactMetricOkRow.holds Try.pinned (OpenSpec.ofChange fnExactMetricOkSpec)

/-- ITS FALSE NEIGHBOUR: 'it returns false'. Refute it at one input. -/
def fnExactMetricOkWrong : ChangeSpec := { name := "fnExactMetricOk", fn := fun _ => fun
  | [d] => { results := [.lit (.bool false)], args := [d] }
  | _ => none }
def FnExactMetricOkWrongFalsely : Prop := fnExactMetricOkRow.holds Try.pinned (OpenSpec.ofChange fnExactMetricOkWrong)

/-- 'laws.FnExactQuote': WHATEVER THE INPUT: true; the input reads as it did. -/
def fnExactQuoteSpec : ChangeSpec := { name := "fnExactQuote", fn := fun _ => fun
  | [d] => { results := [.lit (.bool true)], args := [d] }
  | _ => none }
def fnExactQuoteRow : OpenClaim := { program := "ytjkanclhlnojhaa", sum := "f8ad4457c609d76438dba9c36eaa513eb82bfed4d4519a2ec604abc52238ab6d", func := "loop.example/g00465/laws.FnExactQuote", spec := "fnExactQuote", apart := false }
def FnExactQuoteSaid : Prop := fnExactQuoteRow.holds Try.pinned (OpenSpec.ofChange fnExactQuoteSpec)

/-- ITS FALSE NEIGHBOUR: 'it returns false'. Refute it at one input. -/
def fnExactQuoteWrong : ChangeSpec := { name := "fnExactQuote", fn := fun _ => fun
  | [d] => { results := [.lit (.bool false)], args := [d] }
  | _ => none }
def FnExactQuoteWrongFalsely : Prop := fnExactQuoteRow.holds Try.pinned (OpenSpec.ofChange fnExactQuoteWrong)

/-- 'laws.FnExactSpanText': WHATEVER THE INPUT: true; the input reads as it did. -/
def fnExactSpanTextSpec : ChangeSpec := { name := "fnExactSpanText", fn := fun _ => fun
  | [d] => { results := [.lit (.bool true)], args := [d] }
  | _ => none }
def fnExactSpanTextRow : OpenClaim := { program := "ytjkanclhlnojhaa", sum := "f8ad4457c609d76438dba9c36eaa513eb82bfed4d4519a2ec604abc52238ab6d", func := "loop.example/g00465/laws.FnExactSpanText", spec := "fnExactSpanText", recurses := true, apart := false }
def FnExactSpanTextSaid : Prop := fnExactSpanTextRow.holds Try.pinned (OpenSpec.ofChange fnExactSpanTextSpec)

/-- ITS FALSE NEIGHBOUR: 'it returns false'. Refute it at one input. -/
def fnExactSpanTextWrong : ChangeSpec := { name := "fnExactSpanText", fn := fun _ => fun
  | [d] => { results := [.lit (.bool false)], args := [d] }
  | _ => none }
def FnExactSpanTextWrongFalsely : Prop := fnExactSpanTextRow.holds Try.pinned (OpenSpec.ofChange fnExactSpanTextWrong)

/-- 'laws.FnExactAmountText': WHATEVER THE INPUT: true; the input reads as it did. -/
def fnExactAmountTextSpec : ChangeSpec := { name := "fnExactAmountText", fn := fun _ => fun
  | [d] => { results := [.lit (.bool true)], args := [d] }
  | _ => none }
def fnExactAmountTextRow : OpenClaim := { program := "ytjkanclhlnojhaa", sum := "f8ad4457c609d76438dba9c36eaa513eb82bfed4d4519a2ec604abc52238ab6d", func := "loop.example/g00465/laws.FnExactAmountText", spec := "fnExactAmountText", recurses := true, apart := false }
def FnExactAmountTextSaid : Prop := fnExactAmountTextRow.holds Try.pinned (OpenSpec.ofChange fnExactAmountTextSpec)

/-- ITS FALSE NEIGHBOUR: 'it returns false'. Refute it at one input. -/
def fnExactAmountTextWrong : ChangeSpec := { name := "fnExactAmountText", fn := fun _ => fun
  | [d] => { results := [.lit (.bool false)], args := [d] }
  | _ => none }
def FnExactAmountTextWrongFalsely : Prop := fnExactAmountTextRow.holds Try.pinned (OpenSpec.ofChange fnExactAmountTextWrong)

/-- 'laws.FnExactShareOf': WHATEVER THE INPUT: true; the input reads as it did. -/
def fnExactShareOfSpec : ChangeSpec := { name := "fnExactShareOf", fn := fun _ => fun
  | [d] => { results := [.lit (.bool true)], args := [d] }
  | _ => none }
def fnExactShareOfRow : OpenClaim := { program := "ytjkanclhlnojhaa", sum := "f8ad4457c609d76438dba9c36eaa513eb82bfed4d4519a2ec604abc52238ab6d", func := "loop.example/g00465/laws.FnExactShareOf", spec := "fnExactShareOf", apart := false }
def FnExactShareOfSaid : Prop := fnExactShareOfRow.holds Try.pinned (OpenSpec.ofChange fnExactShareOfSpec)

/-- ITS FALSE NEIGHBOUR: 'it returns false'. Refute it at one input. -/
def fnExactShareOfWrong : ChangeSpec := { name := "fnExactShareOf", fn := fun _ => fun
  | [d] => { results := [.lit (.bool false)], args := [d] }
  | _ => none }
def FnExactShareOfWrongFalsely : Prop := fnExactShareOfRow.holds Try.pinned (OpenSpec.ofChange fnExactShareOfWrong)

/-- 'laws.FnExactNumber': WHATEVER THE INPUT: true; the input reads as it did. -/
def fnExactNumberSpec : ChangeSpec := { name := "fnExactNumber", fn := fun _ => fun
  | [d] => { results := [.lit (.bool true)], args := [d] }
  | _ => none }
def fnExactNumberRow : OpenClaim := { program := "ytjkanclhlnojhaa", sum := "f8ad4457c609d76438dba9c36eaa513eb82bfed4d4519a2ec604abc52238ab6d", func := "loop.example/g00465/laws.FnExactNumber", spec := "fnExactNumber", recurses := true, apart := false }
def FnExactNumberSaid : Prop := fnExactNumberRow.holds Try.pinned (OpenSpec.ofChange fnExactNumberSpec)

/-- ITS FALSE NEIGHBOUR: 'it returns false'. Refute it at one input. -/
def fnExactNumberWrong : ChangeSpec := { name := "fnExactNumber", fn := fun _ => fun
  | [d] => { results := [.lit (.bool false)], args := [d] }
  | _ => none }
def FnExactNumberWrongFalsely : Prop := fnExactNumberRow.holds Try.pinned (OpenSpec.ofChange fnExactNumberWrong)

/-- 'laws.FnExactSpanOf': WHATEVER THE INPUT: true; the input reads as it did. -/
def fnExactSpanOfSpec : ChangeSpec := { name := "fnExactSpanOf", fn := fun _ => fun
  | [d] => { results := [.lit (.bool true)], args := [d] }
  | _ => none }
def fnExactSpanOfRow : OpenClaim := { program := "ytjkanclhlnojhaa", sum := "f8ad4457c609d76438dba9c36eaa513eb82bfed4d4519a2ec604abc52238ab6d", func := "loop.example/g00465/laws.FnExactSpanOf", spec := "fnExactSpanOf", recurses := true, apart := false }
def FnExactSpanOfSaid : Prop := fnExactSpanOfRow.holds Try.pinned (OpenSpec.ofChange fnExactSpanOfSpec)

/-- ITS FALSE NEIGHBOUR: 'it returns false'. Refute it at one input. -/
def fnExactSpanOfWrong : ChangeSpec := { name := "fnExactSpanOf", fn := fun _ => fun
  | [d] => { results := [.lit (.bool false)], args := [d] }
  | _ => none }
def FnExactSpanOfWrongFalsely : Prop := fnExactSpanOfRow.holds Try.pinned (OpenSpec.ofChange fnExactSpanOfWrong)

/-- 'laws.FnExactAmountOf': WHATEVER THE INPUT: true; the input reads as it did. -/
def fnExactAmountOfSpec : ChangeSpec := { name := "fnExactAmountOf", fn := fun _ => fun
  | [d] => { results := [.lit (.bool true)], args := [d] }
  | _ => none }
def fnExactAmountOfRow : OpenClaim := { program := "ytjkanclhlnojhaa", sum := "f8ad4457c609d76438dba9c36eaa513eb82bfed4d4519a2ec604abc52238ab6d", func := "loop.example/g00465/laws.FnExactAmountOf", spec := "fnExactAmountOf", recurses := true, apart := false }
def FnExactAmountOfSaid : Prop := fnExactAmountOfRow.holds Try.pinned (OpenSpec.ofChange fnExactAmountOfSpec)

/-- ITS FALSE NEIGHBOUR: 'it returns false'. Refute it at one input. -/
def fnExactAmountOfWrong : ChangeSpec := { name := "fnExactAmountOf", fn := fun _ => fun
  | [d] => { results := [.lit (.bool false)], args := [d] }
  | _ => none }
def FnExactAmountOfWrongFalsely : Prop := fnExactAmountOfRow.holds Try.pinned (OpenSpec.ofChange fnExactAmountOfWrong)

/-- 'laws.FnNumbers': WHATEVER THE INPUT: true; the input reads as it did. -/
def fnNumbersSpec : ChangeSpec := { name := "fnNumbers", fn := fun _ => fun
  | [d] => { results := [.lit (.bool true)], args := [d] }
  | _ => none }
def fnNumbersRow : OpenClaim := { program := "ytjkanclhlnojhaa", sum := "f8ad4457c609d76438dba9c36eaa513eb82bfed4d4519a2ec604abc52238ab6d", func := "loop.example/g00465/laws.FnNumbers", spec := "fnNumbers", recurses := true, apart := false }
def FnNumbersSaid : Prop := fnNumbersRow.holds Try.pinned (OpenSpec.ofChange fnNumbersSpec)

/-- ITS FALSE NEIGHBOUR: 'it returns false'. Refute it at one input. -/
def fnNumbersWrong : ChangeSpec := { name := "fnNumbers", fn := fun _ => fun
  | [d] => { results := [.lit (.bool false)], args := [d] }
  | _ => none }
def FnNumbersWrongFalsely : Prop := fnNumbersRow.holds Try.pinned (OpenSpec.ofChange fnNumbersWrong)

/-- 'laws.FnExactOrderSame': WHATEVER THE INPUT: true; the input reads as it did. -/
def fnExactOrderSameSpec : ChangeSpec := { name := "fnExactOrderSame", fn := fun _ => fun
  | [d1, d2] => { results := [.lit (.bool true)], args := [d1, d2] }
  | _ => none }
def fnExactOrderSameRow : OpenClaim := { program := "ytjkanclhlnojhaa", sum := "f8ad4457c609d76438dba9c36eaa513eb82bfed4d4519a2ec604abc52238ab6d", func := "loop.example/g00465/laws.FnExactOrderSame", spec := "fnExactOrderSame", apart := false }
def FnExactOrderSameSaid : Prop := fnExactOrderSameRow.holds Try.pinned (OpenSpec.ofChange fnExactOrderSameSpec)

/-- ITS FALSE NEIGHBOUR: 'it returns false'. Refute it at one input. -/
def fnExactOrderSameWrong : ChangeSpec := { name := "fnExactOrderSame", fn := fun _ => fun
  | [d1, d2] => { results := [.lit (.bool false)], args := [d1, d2] }
  | _ => none }
def FnExactOrderSameWrongFalsely : Prop := fnExactOrderSameRow.holds Try.pinned (OpenSpec.ofChange fnExactOrderSameWrong)

/-- 'laws.FnAmounts': WHATEVER THE INPUT: true; the input reads as it did. -/
def fnAmountsSpec : ChangeSpec := { name := "fnAmounts", fn := fun _ => fun
  | [d] => { results := [.lit (.bool true)], args := [d] }
  | _ => none }
def fnAmountsRow : OpenClaim := { program := "ytjkanclhlnojhaa", sum := "f8ad4457c609d76438dba9c36eaa513eb82bfed4d4519a2ec604abc52238ab6d", func := "loop.example/g00465/laws.FnAmounts", spec := "fnAmounts", recurses := true, apart := false }
def FnAmountsSaid : Prop := fnAmountsRow.holds Try.pinned (OpenSpec.ofChange fnAmountsSpec)

/-- ITS FALSE NEIGHBOUR: 'it returns false'. Refute it at one input. -/
def fnAmountsWrong : ChangeSpec := { name := "fnAmounts", fn := fun _ => fun
  | [d] => { results := [.lit (.bool false)], args := [d] }
  | _ => none }
def FnAmountsWrongFalsely : Prop := fnAmountsRow.holds Try.pinned (OpenSpec.ofChange fnAmountsWrong)

/-- 'laws.FnOrders': WHATEVER THE INPUT: true; the input reads as it did. -/
def fnOrdersSpec : ChangeSpec := { name := "fnOrders", fn := fun _ => fun
  | [d] => { results := [.lit (.bool true)], args := [d] }
  | _ => none }
def fnOrdersRow : OpenClaim := { program := "ytjkanclhlnojhaa", sum := "f8ad4457c609d76438dba9c36eaa513eb82bfed4d4519a2ec604abc52238ab6d", func := "loop.example/g00465/laws.FnOrders", spec := "fnOrders", inPlace := ["internal/bytealg.IndexByteString"], apart := false }
def FnOrdersSaid : Prop := fnOrdersRow.holds Try.pinned (OpenSpec.ofChange fnOrdersSpec)

/-- ITS FALSE NEIGHBOUR: 'it returns false'. Refute it at one input. -/
def fnOrdersWrong : ChangeSpec := { name := "fnOrders", fn := fun _ => fun
  | [d] => { results := [.lit (.bool false)], args := [d] }
  | _ => none }
def FnOrdersWrongFalsely : Prop := fnOrdersRow.holds Try.pinned (OpenSpec.ofChange fnOrdersWrong)

/-- 'laws.FnExactOrderOk': WHATEVER THE INPUT: true; the input reads as it did. -/
def fnExactOrderOkSpec : ChangeSpec := { name := "fnExactOrderOk", fn := fun _ => fun
  | [d] => { results := [.lit (.bool true)], args := [d] }
  | _ => none }
def fnExactOrderOkRow : OpenClaim := { program := "ytjkanclhlnojhaa", sum := "f8ad4457c609d76438dba9c36eaa513eb82bfed4d4519a2ec604abc52238ab6d", func := "loop.example/g00465/laws.FnExactOrderOk", spec := "fnExactOrderOk", inPlace := ["internal/bytealg.IndexByteString"], apart := false }
def FnExactOrderOkSaid : Prop := fnExactOrderOkRow.holds Try.pinned (OpenSpec.ofChange fnExactOrderOkSpec)

/-- ITS FALSE NEIGHBOUR: 'it returns false'. Refute it at one input. -/
def fnExactOrderOkWrong : ChangeSpec := { name := "fnExactOrderOk", fn := fun _ => fun
  | [d] => { results := [.lit (.bool false)], args := [d] }
  | _ => none }
def FnExactOrderOkWrongFalsely : Prop := fnExactOrderOkRow.holds Try.pinned (OpenSpec.ofChange fnExactOrderOkWrong)

/- THE SECOND FORM. 'bulk': how many values and letters a reading holds, each counted each time it is reached (what is shared counts as often as it is met; a slice's spare places count too). A statement '..UptoSaid' is the law's where the arguments, and the package variables that the reading takes, are together of bulk at most 1048576: NARROWER than '..Said'. Prove '..Said' where nothing that the law and all that it calls make is longer than what came in: it says more and counts as full. Else prove '..UptoSaid'. A law counts once. -/
mutual
def uptoBulk {H : Type} : DataW H → Nat
  | .lit (.string bytes) => bytes.length + 1
  | .lit _ => 1
  | .nil => 1
  | .ptr d => uptoBulk d + 1
  | .slice elems spare => uptoBulkAll elems + uptoBulkAll spare + 1
  | .agg parts => uptoBulkAll parts + 1
  | .iface _ d => uptoBulk d + 1
  | .map entries => uptoBulkEntries entries + 1
  | .held _ => 1
def uptoBulkAll {H : Type} : List (DataW H) → Nat
  | [] => 0
  | d :: r => uptoBulk d + uptoBulkAll r
def uptoBulkEntries {H : Type} : List (Lit × DataW H) → Nat
  | [] => 0
  | x :: r => uptoBulkEntry x + uptoBulkEntries r
def uptoBulkEntry {H : Type} : Lit × DataW H → Nat
  | (.string bytes, d) => bytes.length + uptoBulk d + 1
  | (_, d) => uptoBulk d + 1
 end
def uptoSmall : (H : Type) → List (DataW H) → Bool := fun _ ds => decide (uptoBulkAll ds ≤ 1048576)
def OpenSpec.upto (s : _root_.Go.ChangeSpec) : _root_.Go.OpenSpec := { _root_.Go.OpenSpec.ofChange s with cond := some uptoSmall }

/-- 'laws.FnExactPaceOk', WHERE WHAT IT READS IS OF BULK AT MOST 1048576: true; the input reads as it did. -/
def fnExactPaceOkUptoRow : OpenClaim := { program := "ytjkanclhlnojhaa", sum := "f8ad4457c609d76438dba9c36eaa513eb82bfed4d4519a2ec604abc52238ab6d", func := "loop.example/g00465/laws.FnExactPaceOk", spec := "fnExactPaceOk", apart := false, narrowed := true }
def FnExactPaceOkUptoSaid : Prop := fnExactPaceOkUptoRow.holds Try.pinned (OpenSpec.upto fnExactPaceOkSpec)

/-- 'laws.FnExactNameOk', WHERE WHAT IT READS IS OF BULK AT MOST 1048576: true; the input reads as it did. -/
def fnExactNameOkUptoRow : OpenClaim := { program := "ytjkanclhlnojhaa", sum := "f8ad4457c609d76438dba9c36eaa513eb82bfed4d4519a2ec604abc52238ab6d", func := "loop.example/g00465/laws.FnExactNameOk", spec := "fnExactNameOk", apart := false, narrowed := true }
def FnExactNameOkUptoSaid : Prop := fnExactNameOkUptoRow.holds Try.pinned (OpenSpec.upto fnExactNameOkSpec)

/-- 'laws.FnExactPlainOk', WHERE WHAT IT READS IS OF BULK AT MOST 1048576: true; the input reads as it did. -/
def fnExactPlainOkUptoRow : OpenClaim := { program := "ytjkanclhlnojhaa", sum := "f8ad4457c609d76438dba9c36eaa513eb82bfed4d4519a2ec604abc52238ab6d", func := "loop.example/g00465/laws.FnExactPlainOk", spec := "fnExactPlainOk", inPlace := ["internal/bytealg.IndexByteString"], apart := false, narrowed := true }
def FnExactPlainOkUptoSaid : Prop := fnExactPlainOkUptoRow.holds Try.pinned (OpenSpec.upto fnExactPlainOkSpec)

/-- 'laws.FnExactDigits', WHERE WHAT IT READS IS OF BULK AT MOST 1048576: true; the input reads as it did. -/
def fnExactDigitsUptoRow : OpenClaim := { program := "ytjkanclhlnojhaa", sum := "f8ad4457c609d76438dba9c36eaa513eb82bfed4d4519a2ec604abc52238ab6d", func := "loop.example/g00465/laws.FnExactDigits", spec := "fnExactDigits", recurses := true, apart := false, narrowed := true }
def FnExactDigitsUptoSaid : Prop := fnExactDigitsUptoRow.holds Try.pinned (OpenSpec.upto fnExactDigitsSpec)

/-- 'laws.FnExactMetricOk', WHERE WHAT IT READS IS OF BULK AT MOST 1048576: true; the input reads as it did. -/
def fnExactMetricOkUptoRow : OpenClaim := { program := "ytjkanclhlnojhaa", sum := "f8ad4457c609d76438dba9c36eaa513eb82bfed4d4519a2ec604abc52238ab6d", func := "loop.example/g00465/laws.FnExactMetricOk", spec := "fnExactMetricOk", apart := false, narrowed := true }
def FnExactMetricOkUptoSaid : Prop := fnExactMetricOkUptoRow.holds Try.pinned (OpenSpec.upto fnExactMetricOkSpec)

/-- 'laws.FnExactQuote', WHERE WHAT IT READS IS OF BULK AT MOST 1048576: true; the input reads as it did. -/
def fnExactQuoteUptoRow : OpenClaim := { program := "ytjkanclhlnojhaa", sum := "f8ad4457c609d76438dba9c36eaa513eb82bfed4d4519a2ec604abc52238ab6d", func := "loop.example/g00465/laws.FnExactQuote", spec := "fnExactQuote", apart := false, narrowed := true }
def FnExactQuoteUptoSaid : Prop := fnExactQuoteUptoRow.holds Try.pinned (OpenSpec.upto fnExactQuoteSpec)

/-- 'laws.FnExactSpanText', WHERE WHAT IT READS IS OF BULK AT MOST 1048576: true; the input reads as it did. -/
def fnExactSpanTextUptoRow : OpenClaim := { program := "ytjkanclhlnojhaa", sum := "f8ad4457c609d76438dba9c36eaa513eb82bfed4d4519a2ec604abc52238ab6d", func := "loop.example/g00465/laws.FnExactSpanText", spec := "fnExactSpanText", recurses := true, apart := false, narrowed := true }
def FnExactSpanTextUptoSaid : Prop := fnExactSpanTextUptoRow.holds Try.pinned (OpenSpec.upto fnExactSpanTextSpec)

/-- 'laws.FnExactAmountText', WHERE WHAT IT READS IS OF BULK AT MOST 1048576: true; the input reads as it did. -/
def fnExactAmountTextUptoRow : OpenClaim := { program := "ytjkanclhlnojhaa", sum := "f8ad4457c609d76438dba9c36eaa513eb82bfed4d4519a2ec604abc52238ab6d", func := "loop.example/g00465/laws.FnExactAmountText", spec := "fnExactAmountText", recurses := true, apart := false, narrowed := true }
def FnExactAmountTextUptoSaid : Prop := fnExactAmountTextUptoRow.holds Try.pinned (OpenSpec.upto fnExactAmountTextSpec)

/-- 'laws.FnExactShareOf', WHERE WHAT IT READS IS OF BULK AT MOST 1048576: true; the input reads as it did. -/
def fnExactShareOfUptoRow : OpenClaim := { program := "ytjkanclhlnojhaa", sum := "f8ad4457c609d76438dba9c36eaa513eb82bfed4d4519a2ec604abc52238ab6d", func := "loop.example/g00465/laws.FnExactShareOf", spec := "fnExactShareOf", apart := false, narrowed := true }
def FnExactShareOfUptoSaid : Prop := fnExactShareOfUptoRow.holds Try.pinned (OpenSpec.upto fnExactShareOfSpec)

/-- 'laws.FnExactNumber', WHERE WHAT IT READS IS OF BULK AT MOST 1048576: true; the input reads as it did. -/
def fnExactNumberUptoRow : OpenClaim := { program := "ytjkanclhlnojhaa", sum := "f8ad4457c609d76438dba9c36eaa513eb82bfed4d4519a2ec604abc52238ab6d", func := "loop.example/g00465/laws.FnExactNumber", spec := "fnExactNumber", recurses := true, apart := false, narrowed := true }
def FnExactNumberUptoSaid : Prop := fnExactNumberUptoRow.holds Try.pinned (OpenSpec.upto fnExactNumberSpec)

/-- 'laws.FnExactSpanOf', WHERE WHAT IT READS IS OF BULK AT MOST 1048576: true; the input reads as it did. -/
def fnExactSpanOfUptoRow : OpenClaim := { program := "ytjkanclhlnojhaa", sum := "f8ad4457c609d76438dba9c36eaa513eb82bfed4d4519a2ec604abc52238ab6d", func := "loop.example/g00465/laws.FnExactSpanOf", spec := "fnExactSpanOf", recurses := true, apart := false, narrowed := true }
def FnExactSpanOfUptoSaid : Prop := fnExactSpanOfUptoRow.holds Try.pinned (OpenSpec.upto fnExactSpanOfSpec)

/-- 'laws.FnExactAmountOf', WHERE WHAT IT READS IS OF BULK AT MOST 1048576: true; the input reads as it did. -/
def fnExactAmountOfUptoRow : OpenClaim := { program := "ytjkanclhlnojhaa", sum := "f8ad4457c609d76438dba9c36eaa513eb82bfed4d4519a2ec604abc52238ab6d", func := "loop.example/g00465/laws.FnExactAmountOf", spec := "fnExactAmountOf", recurses := true, apart := false, narrowed := true }
def FnExactAmountOfUptoSaid : Prop := fnExactAmountOfUptoRow.holds Try.pinned (OpenSpec.upto fnExactAmountOfSpec)

/-- 'laws.FnNumbers', WHERE WHAT IT READS IS OF BULK AT MOST 1048576: true; the input reads as it did. -/
def fnNumbersUptoRow : OpenClaim := { program := "ytjkanclhlnojhaa", sum := "f8ad4457c609d76438dba9c36eaa513eb82bfed4d4519a2ec604abc52238ab6d", func := "loop.example/g00465/laws.FnNumbers", spec := "fnNumbers", recurses := true, apart := false, narrowed := true }
def FnNumbersUptoSaid : Prop := fnNumbersUptoRow.holds Try.pinned (OpenSpec.upto fnNumbersSpec)

/-- 'laws.FnExactOrderSame', WHERE WHAT IT READS IS OF BULK AT MOST 1048576: true; the input reads as it did. -/
def fnExactOrderSameUptoRow : OpenClaim := { program := "ytjkanclhlnojhaa", sum := "f8ad4457c609d76438dba9c36eaa513eb82bfed4d4519a2ec604abc52238ab6d", func := "loop.example/g00465/laws.FnExactOrderSame", spec := "fnExactOrderSame", apart := false, narrowed := true }
def FnExactOrderSameUptoSaid : Prop := fnExactOrderSameUptoRow.holds Try.pinned (OpenSpec.upto fnExactOrderSameSpec)

/-- 'laws.FnAmounts', WHERE WHAT IT READS IS OF BULK AT MOST 1048576: true; the input reads as it did. -/
def fnAmountsUptoRow : OpenClaim := { program := "ytjkanclhlnojhaa", sum := "f8ad4457c609d76438dba9c36eaa513eb82bfed4d4519a2ec604abc52238ab6d", func := "loop.example/g00465/laws.FnAmounts", spec := "fnAmounts", recurses := true, apart := false, narrowed := true }
def FnAmountsUptoSaid : Prop := fnAmountsUptoRow.holds Try.pinned (OpenSpec.upto fnAmountsSpec)

/-- 'laws.FnOrders', WHERE WHAT IT READS IS OF BULK AT MOST 1048576: true; the input reads as it did. -/
def fnOrdersUptoRow : OpenClaim := { program := "ytjkanclhlnojhaa", sum := "f8ad4457c609d76438dba9c36eaa513eb82bfed4d4519a2ec604abc52238ab6d", func := "loop.example/g00465/laws.FnOrders", spec := "fnOrders", inPlace := ["internal/bytealg.IndexByteString"], apart := false, narrowed := true }
def FnOrdersUptoSaid : Prop := fnOrdersUptoRow.holds Try.pinned (OpenSpec.upto fnOrdersSpec)

/-- 'laws.FnExactOrderOk', WHERE WHAT IT READS IS OF BULK AT MOST 1048576: true; the input reads as it did. -/
def fnExactOrderOkUptoRow : OpenClaim := { program := "ytjkanclhlnojhaa", sum := "f8ad4457c609d76438dba9c36eaa513eb82bfed4d4519a2ec604abc52238ab6d", func := "loop.example/g00465/laws.FnExactOrderOk", spec := "fnExactOrderOk", inPlace := ["internal/bytealg.IndexByteString"], apart := false, narrowed := true }
def FnExactOrderOkUptoSaid : Prop := fnExactOrderOkUptoRow.holds Try.pinned (OpenSpec.upto fnExactOrderOkSpec)

end Rows
end Go.Proofs.Ytjkanclhlnojhaa
