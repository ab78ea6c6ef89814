/-
  NARROWER THAN 'FOR EVERY INPUT', by the rows' own cells (each row's printed sentence says how): FnExactMetricsOf: loops.
  DERIVED. THE GIVEN ROWS OF THIS SEAT. 5 by the template 'for every input the law returns true; each argument reads behind the call as it read before'; 0 by the template 'total and deterministic' (their statements: YtdlhidjphaaklaaGreatTotals.lean).
  GIVEN WITH THE SEED: the statements are not yours to turn. If you find one false, say at which input.
  Laid BY PROGRAM, IN A SANDBOX (cutbox-rows.mjs): the forced cells as the released guide's own fill.sh prints them over the translation 0e8a1c50e3429f0f… (all of the seat's roots in one cut). By AI agents, Wed Nov 11 2026. No macro, syntax, notation, axiom, sorry.
-/
import Derived.Test.YtdlhidjphaaklaaGreatChecked
import GoSem.Claim
import GoSem.ClaimJoined
import GoSem.ClaimMapViews
import Derived.JoinedTies
import Derived.KernelRfl
namespace Go.Proofs.YtdlhidjphaaklaaGreat
/- THE CELL 'sum', in the pinned program and in every row, IS THE sha256 OF THE DUMP (.gsa) THAT YtdlhidjphaaklaaGreatProg.lean LOADS. Nothing in Lean hashes anything: it is a label: what it is worth is what the hold of that sum in a sandbox is worth. -/
noncomputable def Tryz.pinned : Pinned := { name := "ytdlhidjphaaklaagreat", sum := "0e8a1c50e3429f0fb83cf7eda7d04b26185d91afe6116370dae7d3cfa9958db8", checked := Tryz.checked }
namespace Rows
def none {H : Type} : Left H := { results := [], args := [] }

/-- 'laws.FnExactMetricsOf': WHATEVER THE INPUT: true; the input reads as it did. -/
def fnExactMetricsOfSpec : ChangeSpec := { name := "fnExactMetricsOf", fn := fun _ => fun
  | [d] => { results := [.lit (.bool true)], args := [d] }
  | _ => none }
def fnExactMetricsOfRow : OpenClaim := { program := "ytdlhidjphaaklaagreat", sum := "0e8a1c50e3429f0fb83cf7eda7d04b26185d91afe6116370dae7d3cfa9958db8", func := "loop.example/g00465/laws.FnExactMetricsOf", spec := "fnExactMetricsOf", inPlace := ["internal/bytealg.abigen_runtime_cmpstring"], unfollowed := true, recurses := true, loops := true, apart := false }
def FnExactMetricsOfSaid : Prop := fnExactMetricsOfRow.holds Tryz.pinned (OpenSpec.ofChange fnExactMetricsOfSpec)

/-- ITS FALSE NEIGHBOUR: 'it returns false'. Refute it at one input. -/
def fnExactMetricsOfWrong : ChangeSpec := { name := "fnExactMetricsOf", fn := fun _ => fun
  | [d] => { results := [.lit (.bool false)], args := [d] }
  | _ => none }
def FnExactMetricsOfWrongFalsely : Prop := fnExactMetricsOfRow.holds Tryz.pinned (OpenSpec.ofChange fnExactMetricsOfWrong)

/-- 'laws.FnExactFullTree': WHATEVER THE INPUT: true; the input reads as it did. -/
def fnExactFullTreeSpec : ChangeSpec := { name := "fnExactFullTree", fn := fun _ => fun
  | [d] => { results := [.lit (.bool true)], args := [d] }
  | _ => none }
def fnExactFullTreeRow : OpenClaim := { program := "ytdlhidjphaaklaagreat", sum := "0e8a1c50e3429f0fb83cf7eda7d04b26185d91afe6116370dae7d3cfa9958db8", func := "loop.example/g00465/laws.FnExactFullTree", spec := "fnExactFullTree", inPlace := ["internal/bytealg.IndexByteString", "slices.overlaps[string]", "slices.overlaps[loop.example/g00465/impl.Node]"], unfollowed := true, recurses := true, apart := false }
def FnExactFullTreeSaid : Prop := fnExactFullTreeRow.holds Tryz.pinned (OpenSpec.ofChange fnExactFullTreeSpec)

/-- ITS FALSE NEIGHBOUR: 'it returns false'. Refute it at one input. -/
def fnExactFullTreeWrong : ChangeSpec := { name := "fnExactFullTree", fn := fun _ => fun
  | [d] => { results := [.lit (.bool false)], args := [d] }
  | _ => none }
def FnExactFullTreeWrongFalsely : Prop := fnExactFullTreeRow.holds Tryz.pinned (OpenSpec.ofChange fnExactFullTreeWrong)

/-- 'laws.FnExactMidTree': WHATEVER THE INPUT: true; the input reads as it did. -/
def fnExactMidTreeSpec : ChangeSpec := { name := "fnExactMidTree", fn := fun _ => fun
  | [d] => { results := [.lit (.bool true)], args := [d] }
  | _ => none }
def fnExactMidTreeRow : OpenClaim := { program := "ytdlhidjphaaklaagreat", sum := "0e8a1c50e3429f0fb83cf7eda7d04b26185d91afe6116370dae7d3cfa9958db8", func := "loop.example/g00465/laws.FnExactMidTree", spec := "fnExactMidTree", inPlace := ["internal/bytealg.IndexByteString", "slices.overlaps[string]", "slices.overlaps[loop.example/g00465/impl.Node]", "internal/abi.NoEscape", "internal/bytealg.MakeNoZero"], unfollowed := true, recurses := true, apart := false }
def FnExactMidTreeSaid : Prop := fnExactMidTreeRow.holds Tryz.pinned (OpenSpec.ofChange fnExactMidTreeSpec)

/-- ITS FALSE NEIGHBOUR: 'it returns false'. Refute it at one input. -/
def fnExactMidTreeWrong : ChangeSpec := { name := "fnExactMidTree", fn := fun _ => fun
  | [d] => { results := [.lit (.bool false)], args := [d] }
  | _ => none }
def FnExactMidTreeWrongFalsely : Prop := fnExactMidTreeRow.holds Tryz.pinned (OpenSpec.ofChange fnExactMidTreeWrong)

/-- 'laws.FnExactPlainTree': WHATEVER THE INPUT: true; the input reads as it did. -/
def fnExactPlainTreeSpec : ChangeSpec := { name := "fnExactPlainTree", fn := fun _ => fun
  | [d] => { results := [.lit (.bool true)], args := [d] }
  | _ => none }
def fnExactPlainTreeRow : OpenClaim := { program := "ytdlhidjphaaklaagreat", sum := "0e8a1c50e3429f0fb83cf7eda7d04b26185d91afe6116370dae7d3cfa9958db8", func := "loop.example/g00465/laws.FnExactPlainTree", spec := "fnExactPlainTree", inPlace := ["internal/bytealg.IndexByteString", "slices.overlaps[string]", "slices.overlaps[loop.example/g00465/impl.Node]", "internal/abi.NoEscape", "internal/bytealg.MakeNoZero"], unfollowed := true, recurses := true, apart := false }
def FnExactPlainTreeSaid : Prop := fnExactPlainTreeRow.holds Tryz.pinned (OpenSpec.ofChange fnExactPlainTreeSpec)

/-- ITS FALSE NEIGHBOUR: 'it returns false'. Refute it at one input. -/
def fnExactPlainTreeWrong : ChangeSpec := { name := "fnExactPlainTree", fn := fun _ => fun
  | [d] => { results := [.lit (.bool false)], args := [d] }
  | _ => none }
def FnExactPlainTreeWrongFalsely : Prop := fnExactPlainTreeRow.holds Tryz.pinned (OpenSpec.ofChange fnExactPlainTreeWrong)

/-- 'laws.FnExactShape': WHATEVER THE INPUT: true; the input reads as it did. -/
def fnExactShapeSpec : ChangeSpec := { name := "fnExactShape", fn := fun _ => fun
  | [d1, d2] => { results := [.lit (.bool true)], args := [d1, d2] }
  | _ => none }
def fnExactShapeRow : OpenClaim := { program := "ytdlhidjphaaklaagreat", sum := "0e8a1c50e3429f0fb83cf7eda7d04b26185d91afe6116370dae7d3cfa9958db8", func := "loop.example/g00465/laws.FnExactShape", spec := "fnExactShape", inPlace := ["internal/bytealg.IndexByteString", "slices.overlaps[string]", "slices.overlaps[loop.example/g00465/impl.Node]", "internal/abi.NoEscape", "internal/bytealg.MakeNoZero"], unfollowed := true, recurses := true, apart := false }
def FnExactShapeSaid : Prop := fnExactShapeRow.holds Tryz.pinned (OpenSpec.ofChange fnExactShapeSpec)

/-- ITS FALSE NEIGHBOUR: 'it returns false'. Refute it at one input. -/
def fnExactShapeWrong : ChangeSpec := { name := "fnExactShape", fn := fun _ => fun
  | [d1, d2] => { results := [.lit (.bool false)], args := [d1, d2] }
  | _ => none }
def FnExactShapeWrongFalsely : Prop := fnExactShapeRow.holds Tryz.pinned (OpenSpec.ofChange fnExactShapeWrong)

/- THE SECOND FORM. 'bulk': how many values and letters a reading holds, each counted each time it is reached (what is shared counts as often as it is met; a slice's spare places count too). A statement '..UptoSaid' is the law's where the arguments, and the package variables that the reading takes, are together of bulk at most 1048576: NARROWER than '..Said'. Prove '..Said' where nothing that the law and all that it calls make is longer than what came in: it says more and counts as full. Else prove '..UptoSaid'. A law counts once. -/
mutual
def uptoBulk {H : Type} : DataW H → Nat
  | .lit (.string bytes) => bytes.length + 1
  | .lit _ => 1
  | .nil => 1
  | .ptr d => uptoBulk d + 1
  | .slice elems spare => uptoBulkAll elems + uptoBulkAll spare + 1
  | .agg parts => uptoBulkAll parts + 1
  | .iface _ d => uptoBulk d + 1
  | .map entries => uptoBulkEntries entries + 1
  | .held _ => 1
def uptoBulkAll {H : Type} : List (DataW H) → Nat
  | [] => 0
  | d :: r => uptoBulk d + uptoBulkAll r
def uptoBulkEntries {H : Type} : List (Lit × DataW H) → Nat
  | [] => 0
  | x :: r => uptoBulkEntry x + uptoBulkEntries r
def uptoBulkEntry {H : Type} : Lit × DataW H → Nat
  | (.string bytes, d) => bytes.length + uptoBulk d + 1
  | (_, d) => uptoBulk d + 1
 end
def uptoSmall : (H : Type) → List (DataW H) → Bool := fun _ ds => decide (uptoBulkAll ds ≤ 1048576)
def OpenSpec.upto (s : _root_.Go.ChangeSpec) : _root_.Go.OpenSpec := { _root_.Go.OpenSpec.ofChange s with cond := some uptoSmall }

/-- 'laws.FnExactMetricsOf', WHERE WHAT IT READS IS OF BULK AT MOST 1048576: true; the input reads as it did. -/
def fnExactMetricsOfUptoRow : OpenClaim := { program := "ytdlhidjphaaklaagreat", sum := "0e8a1c50e3429f0fb83cf7eda7d04b26185d91afe6116370dae7d3cfa9958db8", func := "loop.example/g00465/laws.FnExactMetricsOf", spec := "fnExactMetricsOf", inPlace := ["internal/bytealg.abigen_runtime_cmpstring"], unfollowed := true, recurses := true, loops := true, apart := false, narrowed := true }
def FnExactMetricsOfUptoSaid : Prop := fnExactMetricsOfUptoRow.holds Tryz.pinned (OpenSpec.upto fnExactMetricsOfSpec)

/-- 'laws.FnExactFullTree', WHERE WHAT IT READS IS OF BULK AT MOST 1048576: true; the input reads as it did. -/
def fnExactFullTreeUptoRow : OpenClaim := { program := "ytdlhidjphaaklaagreat", sum := "0e8a1c50e3429f0fb83cf7eda7d04b26185d91afe6116370dae7d3cfa9958db8", func := "loop.example/g00465/laws.FnExactFullTree", spec := "fnExactFullTree", inPlace := ["internal/bytealg.IndexByteString", "slices.overlaps[string]", "slices.overlaps[loop.example/g00465/impl.Node]"], unfollowed := true, recurses := true, apart := false, narrowed := true }
def FnExactFullTreeUptoSaid : Prop := fnExactFullTreeUptoRow.holds Tryz.pinned (OpenSpec.upto fnExactFullTreeSpec)

/-- 'laws.FnExactMidTree', WHERE WHAT IT READS IS OF BULK AT MOST 1048576: true; the input reads as it did. -/
def fnExactMidTreeUptoRow : OpenClaim := { program := "ytdlhidjphaaklaagreat", sum := "0e8a1c50e3429f0fb83cf7eda7d04b26185d91afe6116370dae7d3cfa9958db8", func := "loop.example/g00465/laws.FnExactMidTree", spec := "fnExactMidTree", inPlace := ["internal/bytealg.IndexByteString", "slices.overlaps[string]", "slices.overlaps[loop.example/g00465/impl.Node]", "internal/abi.NoEscape", "internal/bytealg.MakeNoZero"], unfollowed := true, recurses := true, apart := false, narrowed := true }
def FnExactMidTreeUptoSaid : Prop := fnExactMidTreeUptoRow.holds Tryz.pinned (OpenSpec.upto fnExactMidTreeSpec)

/-- 'laws.FnExactPlainTree', WHERE WHAT IT READS IS OF BULK AT MOST 1048576: true; the input reads as it did. -/
def fnExactPlainTreeUptoRow : OpenClaim := { program := "ytdlhidjphaaklaagreat", sum := "0e8a1c50e3429f0fb83cf7eda7d04b26185d91afe6116370dae7d3cfa9958db8", func := "loop.example/g00465/laws.FnExactPlainTree", spec := "fnExactPlainTree", inPlace := ["internal/bytealg.IndexByteString", "slices.overlaps[string]", "slices.overlaps[loop.example/g00465/impl.Node]", "internal/abi.NoEscape", "internal/bytealg.MakeNoZero"], unfollowed := true, recurses := true, apart := false, narrowed := true }
def FnExactPlainTreeUptoSaid : Prop := fnExactPlainTreeUptoRow.holds Tryz.pinned (OpenSpec.upto fnExactPlainTreeSpec)

/-- 'laws.FnExactShape', WHERE WHAT IT READS IS OF BULK AT MOST 1048576: true; the input reads as it did. -/
def fnExactShapeUptoRow : OpenClaim := { program := "ytdlhidjphaaklaagreat", sum := "0e8a1c50e3429f0fb83cf7eda7d04b26185d91afe6116370dae7d3cfa9958db8", func := "loop.example/g00465/laws.FnExactShape", spec := "fnExactShape", inPlace := ["internal/bytealg.IndexByteString", "slices.overlaps[string]", "slices.overlaps[loop.example/g00465/impl.Node]", "internal/abi.NoEscape", "internal/bytealg.MakeNoZero"], unfollowed := true, recurses := true, apart := false, narrowed := true }
def FnExactShapeUptoSaid : Prop := fnExactShapeUptoRow.holds Tryz.pinned (OpenSpec.upto fnExactShapeSpec)

end Rows
end Go.Proofs.YtdlhidjphaaklaaGreat
