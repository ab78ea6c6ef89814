/-
  NARROWER THAN 'FOR EVERY INPUT', by the rows' own cells (each row's printed sentence says how): FnExactTreeSame: loops · FnExactListOf: loops · FnExactGet: loops · FnExactTreeOk: loops · FnExactUnset: loops · FnExactSet: loops · FnExactBraced: loops · FnExactInline: loops · FnExactIndented: loops.
  DERIVED. THE GIVEN ROWS OF THIS SEAT. 16 by the template 'for every input the law returns true; each argument reads behind the call as it read before'; 0 by the template 'total and deterministic' (their statements: YtnbnpgjgibcmpaaTotals.lean).
  GIVEN WITH THE SEED: the statements are not yours to turn. If you find one false, say at which input.
  Laid BY PROGRAM, IN A SANDBOX (cutbox-rows.mjs): the forced cells as the released guide's own fill.sh prints them over the translation 92a3f13b88a3411f… (all of the seat's roots in one cut). By AI agents, Wed Nov 11 2026. No macro, syntax, notation, axiom, sorry.
-/
import Derived.Test.YtnbnpgjgibcmpaaChecked
import GoSem.Claim
import GoSem.ClaimJoined
import GoSem.ClaimMapViews
import Derived.JoinedTies
import Derived.KernelRfl
namespace Go.Proofs.Ytnbnpgjgibcmpaa
/- THE CELL 'sum', in the pinned program and in every row, IS THE sha256 OF THE DUMP (.gsa) THAT YtnbnpgjgibcmpaaProg.lean LOADS. Nothing in Lean hashes anything: it is a label: what it is worth is what the hold of that sum in a sandbox is worth. -/
noncomputable def Try.pinned : Pinned := { name := "ytnbnpgjgibcmpaa", sum := "92a3f13b88a3411fb4ba43785fe6eabc17b139f42abb7f98f8cc5b1ffc6025cb", checked := Try.checked }
namespace Rows
def none {H : Type} : Left H := { results := [], args := [] }

/-- 'laws.FnExactIntOf': WHATEVER THE INPUT: true; the input reads as it did. -/
def fnExactIntOfSpec : ChangeSpec := { name := "fnExactIntOf", fn := fun _ => fun
  | [d] => { results := [.lit (.bool true)], args := [d] }
  | _ => none }
def fnExactIntOfRow : OpenClaim := { program := "ytnbnpgjgibcmpaa", sum := "92a3f13b88a3411fb4ba43785fe6eabc17b139f42abb7f98f8cc5b1ffc6025cb", func := "loop.example/g00465/laws.FnExactIntOf", spec := "fnExactIntOf", recurses := true, apart := false }
def FnExactIntOfSaid : Prop := fnExactIntOfRow.holds Try.pinned (OpenSpec.ofChange fnExactIntOfSpec)

/-- ITS FALSE NEIGHBOUR: 'it returns false'. Refute it at one input. -/
def fnExactIntOfWrong : ChangeSpec := { name := "fnExactIntOf", fn := fun _ => fun
  | [d] => { results := [.lit (.bool false)], args := [d] }
  | _ => none }
def FnExactIntOfWrongFalsely : Prop := fnExactIntOfRow.holds Try.pinned (OpenSpec.ofChange fnExactIntOfWrong)

/-- 'laws.FnExactTextOf': WHATEVER THE INPUT: true; the input reads as it did. -/
def fnExactTextOfSpec : ChangeSpec := { name := "fnExactTextOf", fn := fun _ => fun
  | [d] => { results := [.lit (.bool true)], args := [d] }
  | _ => none }
def fnExactTextOfRow : OpenClaim := { program := "ytnbnpgjgibcmpaa", sum := "92a3f13b88a3411fb4ba43785fe6eabc17b139f42abb7f98f8cc5b1ffc6025cb", func := "loop.example/g00465/laws.FnExactTextOf", spec := "fnExactTextOf", recurses := true, apart := false }
def FnExactTextOfSaid : Prop := fnExactTextOfRow.holds Try.pinned (OpenSpec.ofChange fnExactTextOfSpec)

/-- ITS FALSE NEIGHBOUR: 'it returns false'. Refute it at one input. -/
def fnExactTextOfWrong : ChangeSpec := { name := "fnExactTextOf", fn := fun _ => fun
  | [d] => { results := [.lit (.bool false)], args := [d] }
  | _ => none }
def FnExactTextOfWrongFalsely : Prop := fnExactTextOfRow.holds Try.pinned (OpenSpec.ofChange fnExactTextOfWrong)

/-- 'laws.FnExactFlagOf': WHATEVER THE INPUT: true; the input reads as it did. -/
def fnExactFlagOfSpec : ChangeSpec := { name := "fnExactFlagOf", fn := fun _ => fun
  | [d] => { results := [.lit (.bool true)], args := [d] }
  | _ => none }
def fnExactFlagOfRow : OpenClaim := { program := "ytnbnpgjgibcmpaa", sum := "92a3f13b88a3411fb4ba43785fe6eabc17b139f42abb7f98f8cc5b1ffc6025cb", func := "loop.example/g00465/laws.FnExactFlagOf", spec := "fnExactFlagOf", recurses := true, apart := false }
def FnExactFlagOfSaid : Prop := fnExactFlagOfRow.holds Try.pinned (OpenSpec.ofChange fnExactFlagOfSpec)

/-- ITS FALSE NEIGHBOUR: 'it returns false'. Refute it at one input. -/
def fnExactFlagOfWrong : ChangeSpec := { name := "fnExactFlagOf", fn := fun _ => fun
  | [d] => { results := [.lit (.bool false)], args := [d] }
  | _ => none }
def FnExactFlagOfWrongFalsely : Prop := fnExactFlagOfRow.holds Try.pinned (OpenSpec.ofChange fnExactFlagOfWrong)

/-- 'laws.FnExactTreeSame': WHATEVER THE INPUT: true; the input reads as it did. -/
def fnExactTreeSameSpec : ChangeSpec := { name := "fnExactTreeSame", fn := fun _ => fun
  | [d1, d2] => { results := [.lit (.bool true)], args := [d1, d2] }
  | _ => none }
def fnExactTreeSameRow : OpenClaim := { program := "ytnbnpgjgibcmpaa", sum := "92a3f13b88a3411fb4ba43785fe6eabc17b139f42abb7f98f8cc5b1ffc6025cb", func := "loop.example/g00465/laws.FnExactTreeSame", spec := "fnExactTreeSame", unfollowed := true, recurses := true, loops := true, apart := false }
def FnExactTreeSameSaid : Prop := fnExactTreeSameRow.holds Try.pinned (OpenSpec.ofChange fnExactTreeSameSpec)

/-- ITS FALSE NEIGHBOUR: 'it returns false'. Refute it at one input. -/
def fnExactTreeSameWrong : ChangeSpec := { name := "fnExactTreeSame", fn := fun _ => fun
  | [d1, d2] => { results := [.lit (.bool false)], args := [d1, d2] }
  | _ => none }
def FnExactTreeSameWrongFalsely : Prop := fnExactTreeSameRow.holds Try.pinned (OpenSpec.ofChange fnExactTreeSameWrong)

/-- 'laws.FnLeaves': WHATEVER THE INPUT: true; the input reads as it did. -/
def fnLeavesSpec : ChangeSpec := { name := "fnLeaves", fn := fun _ => fun
  | [d] => { results := [.lit (.bool true)], args := [d] }
  | _ => none }
def fnLeavesRow : OpenClaim := { program := "ytnbnpgjgibcmpaa", sum := "92a3f13b88a3411fb4ba43785fe6eabc17b139f42abb7f98f8cc5b1ffc6025cb", func := "loop.example/g00465/laws.FnLeaves", spec := "fnLeaves", unfollowed := true, recurses := true, apart := false }
def FnLeavesSaid : Prop := fnLeavesRow.holds Try.pinned (OpenSpec.ofChange fnLeavesSpec)

/-- ITS FALSE NEIGHBOUR: 'it returns false'. Refute it at one input. -/
def fnLeavesWrong : ChangeSpec := { name := "fnLeaves", fn := fun _ => fun
  | [d] => { results := [.lit (.bool false)], args := [d] }
  | _ => none }
def FnLeavesWrongFalsely : Prop := fnLeavesRow.holds Try.pinned (OpenSpec.ofChange fnLeavesWrong)

/-- 'laws.FnExactListOf': WHATEVER THE INPUT: true; the input reads as it did. -/
def fnExactListOfSpec : ChangeSpec := { name := "fnExactListOf", fn := fun _ => fun
  | [d] => { results := [.lit (.bool true)], args := [d] }
  | _ => none }
def fnExactListOfRow : OpenClaim := { program := "ytnbnpgjgibcmpaa", sum := "92a3f13b88a3411fb4ba43785fe6eabc17b139f42abb7f98f8cc5b1ffc6025cb", func := "loop.example/g00465/laws.FnExactListOf", spec := "fnExactListOf", recurses := true, loops := true, apart := false }
def FnExactListOfSaid : Prop := fnExactListOfRow.holds Try.pinned (OpenSpec.ofChange fnExactListOfSpec)

/-- ITS FALSE NEIGHBOUR: 'it returns false'. Refute it at one input. -/
def fnExactListOfWrong : ChangeSpec := { name := "fnExactListOf", fn := fun _ => fun
  | [d] => { results := [.lit (.bool false)], args := [d] }
  | _ => none }
def FnExactListOfWrongFalsely : Prop := fnExactListOfRow.holds Try.pinned (OpenSpec.ofChange fnExactListOfWrong)

/-- 'laws.FnExactGet': WHATEVER THE INPUT: true; the input reads as it did. -/
def fnExactGetSpec : ChangeSpec := { name := "fnExactGet", fn := fun _ => fun
  | [d1, d2] => { results := [.lit (.bool true)], args := [d1, d2] }
  | _ => none }
def fnExactGetRow : OpenClaim := { program := "ytnbnpgjgibcmpaa", sum := "92a3f13b88a3411fb4ba43785fe6eabc17b139f42abb7f98f8cc5b1ffc6025cb", func := "loop.example/g00465/laws.FnExactGet", spec := "fnExactGet", recurses := true, loops := true, apart := false }
def FnExactGetSaid : Prop := fnExactGetRow.holds Try.pinned (OpenSpec.ofChange fnExactGetSpec)

/-- ITS FALSE NEIGHBOUR: 'it returns false'. Refute it at one input. -/
def fnExactGetWrong : ChangeSpec := { name := "fnExactGet", fn := fun _ => fun
  | [d1, d2] => { results := [.lit (.bool false)], args := [d1, d2] }
  | _ => none }
def FnExactGetWrongFalsely : Prop := fnExactGetRow.holds Try.pinned (OpenSpec.ofChange fnExactGetWrong)

/-- 'laws.FnExactTreeOk': WHATEVER THE INPUT: true; the input reads as it did. -/
def fnExactTreeOkSpec : ChangeSpec := { name := "fnExactTreeOk", fn := fun _ => fun
  | [d] => { results := [.lit (.bool true)], args := [d] }
  | _ => none }
def fnExactTreeOkRow : OpenClaim := { program := "ytnbnpgjgibcmpaa", sum := "92a3f13b88a3411fb4ba43785fe6eabc17b139f42abb7f98f8cc5b1ffc6025cb", func := "loop.example/g00465/laws.FnExactTreeOk", spec := "fnExactTreeOk", unfollowed := true, recurses := true, loops := true, apart := false }
def FnExactTreeOkSaid : Prop := fnExactTreeOkRow.holds Try.pinned (OpenSpec.ofChange fnExactTreeOkSpec)

/-- ITS FALSE NEIGHBOUR: 'it returns false'. Refute it at one input. -/
def fnExactTreeOkWrong : ChangeSpec := { name := "fnExactTreeOk", fn := fun _ => fun
  | [d] => { results := [.lit (.bool false)], args := [d] }
  | _ => none }
def FnExactTreeOkWrongFalsely : Prop := fnExactTreeOkRow.holds Try.pinned (OpenSpec.ofChange fnExactTreeOkWrong)

/-- 'laws.FnExactUnset': WHATEVER THE INPUT: true; the input reads as it did. -/
def fnExactUnsetSpec : ChangeSpec := { name := "fnExactUnset", fn := fun _ => fun
  | [d1, d2] => { results := [.lit (.bool true)], args := [d1, d2] }
  | _ => none }
def fnExactUnsetRow : OpenClaim := { program := "ytnbnpgjgibcmpaa", sum := "92a3f13b88a3411fb4ba43785fe6eabc17b139f42abb7f98f8cc5b1ffc6025cb", func := "loop.example/g00465/laws.FnExactUnset", spec := "fnExactUnset", recurses := true, loops := true, apart := false }
def FnExactUnsetSaid : Prop := fnExactUnsetRow.holds Try.pinned (OpenSpec.ofChange fnExactUnsetSpec)

/-- ITS FALSE NEIGHBOUR: 'it returns false'. Refute it at one input. -/
def fnExactUnsetWrong : ChangeSpec := { name := "fnExactUnset", fn := fun _ => fun
  | [d1, d2] => { results := [.lit (.bool false)], args := [d1, d2] }
  | _ => none }
def FnExactUnsetWrongFalsely : Prop := fnExactUnsetRow.holds Try.pinned (OpenSpec.ofChange fnExactUnsetWrong)

/-- 'laws.FnExactSet': WHATEVER THE INPUT: true; the input reads as it did. -/
def fnExactSetSpec : ChangeSpec := { name := "fnExactSet", fn := fun _ => fun
  | [d1, d2, d3] => { results := [.lit (.bool true)], args := [d1, d2, d3] }
  | _ => none }
def fnExactSetRow : OpenClaim := { program := "ytnbnpgjgibcmpaa", sum := "92a3f13b88a3411fb4ba43785fe6eabc17b139f42abb7f98f8cc5b1ffc6025cb", func := "loop.example/g00465/laws.FnExactSet", spec := "fnExactSet", inPlace := ["slices.overlaps[string]", "slices.overlaps[loop.example/g00465/impl.Node]"], unfollowed := true, recurses := true, loops := true, apart := false }
def FnExactSetSaid : Prop := fnExactSetRow.holds Try.pinned (OpenSpec.ofChange fnExactSetSpec)

/-- ITS FALSE NEIGHBOUR: 'it returns false'. Refute it at one input. -/
def fnExactSetWrong : ChangeSpec := { name := "fnExactSet", fn := fun _ => fun
  | [d1, d2, d3] => { results := [.lit (.bool false)], args := [d1, d2, d3] }
  | _ => none }
def FnExactSetWrongFalsely : Prop := fnExactSetRow.holds Try.pinned (OpenSpec.ofChange fnExactSetWrong)

/-- 'laws.FnExactPaceTree': WHATEVER THE INPUT: true; the input reads as it did. -/
def fnExactPaceTreeSpec : ChangeSpec := { name := "fnExactPaceTree", fn := fun _ => fun
  | [d] => { results := [.lit (.bool true)], args := [d] }
  | _ => none }
def fnExactPaceTreeRow : OpenClaim := { program := "ytnbnpgjgibcmpaa", sum := "92a3f13b88a3411fb4ba43785fe6eabc17b139f42abb7f98f8cc5b1ffc6025cb", func := "loop.example/g00465/laws.FnExactPaceTree", spec := "fnExactPaceTree", inPlace := ["slices.overlaps[string]", "slices.overlaps[loop.example/g00465/impl.Node]"], unfollowed := true, recurses := true, apart := false }
def FnExactPaceTreeSaid : Prop := fnExactPaceTreeRow.holds Try.pinned (OpenSpec.ofChange fnExactPaceTreeSpec)

/-- ITS FALSE NEIGHBOUR: 'it returns false'. Refute it at one input. -/
def fnExactPaceTreeWrong : ChangeSpec := { name := "fnExactPaceTree", fn := fun _ => fun
  | [d] => { results := [.lit (.bool false)], args := [d] }
  | _ => none }
def FnExactPaceTreeWrongFalsely : Prop := fnExactPaceTreeRow.holds Try.pinned (OpenSpec.ofChange fnExactPaceTreeWrong)

/-- 'laws.FnExactMetricTree': WHATEVER THE INPUT: true; the input reads as it did. -/
def fnExactMetricTreeSpec : ChangeSpec := { name := "fnExactMetricTree", fn := fun _ => fun
  | [d] => { results := [.lit (.bool true)], args := [d] }
  | _ => none }
def fnExactMetricTreeRow : OpenClaim := { program := "ytnbnpgjgibcmpaa", sum := "92a3f13b88a3411fb4ba43785fe6eabc17b139f42abb7f98f8cc5b1ffc6025cb", func := "loop.example/g00465/laws.FnExactMetricTree", spec := "fnExactMetricTree", inPlace := ["slices.overlaps[string]", "slices.overlaps[loop.example/g00465/impl.Node]"], unfollowed := true, recurses := true, apart := false }
def FnExactMetricTreeSaid : Prop := fnExactMetricTreeRow.holds Try.pinned (OpenSpec.ofChange fnExactMetricTreeSpec)

/-- ITS FALSE NEIGHBOUR: 'it returns false'. Refute it at one input. -/
def fnExactMetricTreeWrong : ChangeSpec := { name := "fnExactMetricTree", fn := fun _ => fun
  | [d] => { results := [.lit (.bool false)], args := [d] }
  | _ => none }
def FnExactMetricTreeWrongFalsely : Prop := fnExactMetricTreeRow.holds Try.pinned (OpenSpec.ofChange fnExactMetricTreeWrong)

/-- 'laws.FnExactBraced': WHATEVER THE INPUT: true; the input reads as it did. -/
def fnExactBracedSpec : ChangeSpec := { name := "fnExactBraced", fn := fun _ => fun
  | [d] => { results := [.lit (.bool true)], args := [d] }
  | _ => none }
def fnExactBracedRow : OpenClaim := { program := "ytnbnpgjgibcmpaa", sum := "92a3f13b88a3411fb4ba43785fe6eabc17b139f42abb7f98f8cc5b1ffc6025cb", func := "loop.example/g00465/laws.FnExactBraced", spec := "fnExactBraced", inPlace := ["internal/abi.NoEscape", "internal/bytealg.MakeNoZero"], unfollowed := true, recurses := true, loops := true, apart := false }
def FnExactBracedSaid : Prop := fnExactBracedRow.holds Try.pinned (OpenSpec.ofChange fnExactBracedSpec)

/-- ITS FALSE NEIGHBOUR: 'it returns false'. Refute it at one input. -/
def fnExactBracedWrong : ChangeSpec := { name := "fnExactBraced", fn := fun _ => fun
  | [d] => { results := [.lit (.bool false)], args := [d] }
  | _ => none }
def FnExactBracedWrongFalsely : Prop := fnExactBracedRow.holds Try.pinned (OpenSpec.ofChange fnExactBracedWrong)

/-- 'laws.FnExactInline': WHATEVER THE INPUT: true; the input reads as it did. -/
def fnExactInlineSpec : ChangeSpec := { name := "fnExactInline", fn := fun _ => fun
  | [d] => { results := [.lit (.bool true)], args := [d] }
  | _ => none }
def fnExactInlineRow : OpenClaim := { program := "ytnbnpgjgibcmpaa", sum := "92a3f13b88a3411fb4ba43785fe6eabc17b139f42abb7f98f8cc5b1ffc6025cb", func := "loop.example/g00465/laws.FnExactInline", spec := "fnExactInline", inPlace := ["internal/bytealg.IndexByteString", "internal/abi.NoEscape", "internal/bytealg.MakeNoZero"], unfollowed := true, recurses := true, loops := true, apart := false }
def FnExactInlineSaid : Prop := fnExactInlineRow.holds Try.pinned (OpenSpec.ofChange fnExactInlineSpec)

/-- ITS FALSE NEIGHBOUR: 'it returns false'. Refute it at one input. -/
def fnExactInlineWrong : ChangeSpec := { name := "fnExactInline", fn := fun _ => fun
  | [d] => { results := [.lit (.bool false)], args := [d] }
  | _ => none }
def FnExactInlineWrongFalsely : Prop := fnExactInlineRow.holds Try.pinned (OpenSpec.ofChange fnExactInlineWrong)

/-- 'laws.FnTrees': WHATEVER THE INPUT: true; the input reads as it did. -/
def fnTreesSpec : ChangeSpec := { name := "fnTrees", fn := fun _ => fun
  | [d] => { results := [.lit (.bool true)], args := [d] }
  | _ => none }
def fnTreesRow : OpenClaim := { program := "ytnbnpgjgibcmpaa", sum := "92a3f13b88a3411fb4ba43785fe6eabc17b139f42abb7f98f8cc5b1ffc6025cb", func := "loop.example/g00465/laws.FnTrees", spec := "fnTrees", inPlace := ["slices.overlaps[string]", "slices.overlaps[loop.example/g00465/impl.Node]"], unfollowed := true, recurses := true, apart := false }
def FnTreesSaid : Prop := fnTreesRow.holds Try.pinned (OpenSpec.ofChange fnTreesSpec)

/-- ITS FALSE NEIGHBOUR: 'it returns false'. Refute it at one input. -/
def fnTreesWrong : ChangeSpec := { name := "fnTrees", fn := fun _ => fun
  | [d] => { results := [.lit (.bool false)], args := [d] }
  | _ => none }
def FnTreesWrongFalsely : Prop := fnTreesRow.holds Try.pinned (OpenSpec.ofChange fnTreesWrong)

/-- 'laws.FnExactIndented': WHATEVER THE INPUT: true; the input reads as it did. -/
def fnExactIndentedSpec : ChangeSpec := { name := "fnExactIndented", fn := fun _ => fun
  | [d] => { results := [.lit (.bool true)], args := [d] }
  | _ => none }
def fnExactIndentedRow : OpenClaim := { program := "ytnbnpgjgibcmpaa", sum := "92a3f13b88a3411fb4ba43785fe6eabc17b139f42abb7f98f8cc5b1ffc6025cb", func := "loop.example/g00465/laws.FnExactIndented", spec := "fnExactIndented", inPlace := ["internal/bytealg.IndexByteString", "internal/abi.NoEscape", "internal/bytealg.MakeNoZero"], unfollowed := true, recurses := true, loops := true, apart := false }
def FnExactIndentedSaid : Prop := fnExactIndentedRow.holds Try.pinned (OpenSpec.ofChange fnExactIndentedSpec)

/-- ITS FALSE NEIGHBOUR: 'it returns false'. Refute it at one input. -/
def fnExactIndentedWrong : ChangeSpec := { name := "fnExactIndented", fn := fun _ => fun
  | [d] => { results := [.lit (.bool false)], args := [d] }
  | _ => none }
def FnExactIndentedWrongFalsely : Prop := fnExactIndentedRow.holds Try.pinned (OpenSpec.ofChange fnExactIndentedWrong)

/- THE SECOND FORM. 'bulk': how many values and letters a reading holds, each counted each time it is reached (what is shared counts as often as it is met; a slice's spare places count too). A statement '..UptoSaid' is the law's where the arguments, and the package variables that the reading takes, are together of bulk at most 1048576: NARROWER than '..Said'. Prove '..Said' where nothing that the law and all that it calls make is longer than what came in: it says more and counts as full. Else prove '..UptoSaid'. A law counts once. -/
mutual
def uptoBulk {H : Type} : DataW H → Nat
  | .lit (.string bytes) => bytes.length + 1
  | .lit _ => 1
  | .nil => 1
  | .ptr d => uptoBulk d + 1
  | .slice elems spare => uptoBulkAll elems + uptoBulkAll spare + 1
  | .agg parts => uptoBulkAll parts + 1
  | .iface _ d => uptoBulk d + 1
  | .map entries => uptoBulkEntries entries + 1
  | .held _ => 1
def uptoBulkAll {H : Type} : List (DataW H) → Nat
  | [] => 0
  | d :: r => uptoBulk d + uptoBulkAll r
def uptoBulkEntries {H : Type} : List (Lit × DataW H) → Nat
  | [] => 0
  | x :: r => uptoBulkEntry x + uptoBulkEntries r
def uptoBulkEntry {H : Type} : Lit × DataW H → Nat
  | (.string bytes, d) => bytes.length + uptoBulk d + 1
  | (_, d) => uptoBulk d + 1
 end
def uptoSmall : (H : Type) → List (DataW H) → Bool := fun _ ds => decide (uptoBulkAll ds ≤ 1048576)
def OpenSpec.upto (s : _root_.Go.ChangeSpec) : _root_.Go.OpenSpec := { _root_.Go.OpenSpec.ofChange s with cond := some uptoSmall }

/-- 'laws.FnExactIntOf', WHERE WHAT IT READS IS OF BULK AT MOST 1048576: true; the input reads as it did. -/
def fnExactIntOfUptoRow : OpenClaim := { program := "ytnbnpgjgibcmpaa", sum := "92a3f13b88a3411fb4ba43785fe6eabc17b139f42abb7f98f8cc5b1ffc6025cb", func := "loop.example/g00465/laws.FnExactIntOf", spec := "fnExactIntOf", recurses := true, apart := false, narrowed := true }
def FnExactIntOfUptoSaid : Prop := fnExactIntOfUptoRow.holds Try.pinned (OpenSpec.upto fnExactIntOfSpec)

/-- 'laws.FnExactTextOf', WHERE WHAT IT READS IS OF BULK AT MOST 1048576: true; the input reads as it did. -/
def fnExactTextOfUptoRow : OpenClaim := { program := "ytnbnpgjgibcmpaa", sum := "92a3f13b88a3411fb4ba43785fe6eabc17b139f42abb7f98f8cc5b1ffc6025cb", func := "loop.example/g00465/laws.FnExactTextOf", spec := "fnExactTextOf", recurses := true, apart := false, narrowed := true }
def FnExactTextOfUptoSaid : Prop := fnExactTextOfUptoRow.holds Try.pinned (OpenSpec.upto fnExactTextOfSpec)

/-- 'laws.FnExactFlagOf', WHERE WHAT IT READS IS OF BULK AT MOST 1048576: true; the input reads as it did. -/
def fnExactFlagOfUptoRow : OpenClaim := { program := "ytnbnpgjgibcmpaa", sum := "92a3f13b88a3411fb4ba43785fe6eabc17b139f42abb7f98f8cc5b1ffc6025cb", func := "loop.example/g00465/laws.FnExactFlagOf", spec := "fnExactFlagOf", recurses := true, apart := false, narrowed := true }
def FnExactFlagOfUptoSaid : Prop := fnExactFlagOfUptoRow.holds Try.pinned (OpenSpec.upto fnExactFlagOfSpec)

/-- 'laws.FnExactTreeSame', WHERE WHAT IT READS IS OF BULK AT MOST 1048576: true; the input reads as it did. -/
def fnExactTreeSameUptoRow : OpenClaim := { program := "ytnbnpgjgibcmpaa", sum := "92a3f13b88a3411fb4ba43785fe6eabc17b139f42abb7f98f8cc5b1ffc6025cb", func := "loop.example/g00465/laws.FnExactTreeSame", spec := "fnExactTreeSame", unfollowed := true, recurses := true, loops := true, apart := false, narrowed := true }
def FnExactTreeSameUptoSaid : Prop := fnExactTreeSameUptoRow.holds Try.pinned (OpenSpec.upto fnExactTreeSameSpec)

/-- 'laws.FnLeaves', WHERE WHAT IT READS IS OF BULK AT MOST 1048576: true; the input reads as it did. -/
def fnLeavesUptoRow : OpenClaim := { program := "ytnbnpgjgibcmpaa", sum := "92a3f13b88a3411fb4ba43785fe6eabc17b139f42abb7f98f8cc5b1ffc6025cb", func := "loop.example/g00465/laws.FnLeaves", spec := "fnLeaves", unfollowed := true, recurses := true, apart := false, narrowed := true }
def FnLeavesUptoSaid : Prop := fnLeavesUptoRow.holds Try.pinned (OpenSpec.upto fnLeavesSpec)

/-- 'laws.FnExactListOf', WHERE WHAT IT READS IS OF BULK AT MOST 1048576: true; the input reads as it did. -/
def fnExactListOfUptoRow : OpenClaim := { program := "ytnbnpgjgibcmpaa", sum := "92a3f13b88a3411fb4ba43785fe6eabc17b139f42abb7f98f8cc5b1ffc6025cb", func := "loop.example/g00465/laws.FnExactListOf", spec := "fnExactListOf", recurses := true, loops := true, apart := false, narrowed := true }
def FnExactListOfUptoSaid : Prop := fnExactListOfUptoRow.holds Try.pinned (OpenSpec.upto fnExactListOfSpec)

/-- 'laws.FnExactGet', WHERE WHAT IT READS IS OF BULK AT MOST 1048576: true; the input reads as it did. -/
def fnExactGetUptoRow : OpenClaim := { program := "ytnbnpgjgibcmpaa", sum := "92a3f13b88a3411fb4ba43785fe6eabc17b139f42abb7f98f8cc5b1ffc6025cb", func := "loop.example/g00465/laws.FnExactGet", spec := "fnExactGet", recurses := true, loops := true, apart := false, narrowed := true }
def FnExactGetUptoSaid : Prop := fnExactGetUptoRow.holds Try.pinned (OpenSpec.upto fnExactGetSpec)

/-- 'laws.FnExactTreeOk', WHERE WHAT IT READS IS OF BULK AT MOST 1048576: true; the input reads as it did. -/
def fnExactTreeOkUptoRow : OpenClaim := { program := "ytnbnpgjgibcmpaa", sum := "92a3f13b88a3411fb4ba43785fe6eabc17b139f42abb7f98f8cc5b1ffc6025cb", func := "loop.example/g00465/laws.FnExactTreeOk", spec := "fnExactTreeOk", unfollowed := true, recurses := true, loops := true, apart := false, narrowed := true }
def FnExactTreeOkUptoSaid : Prop := fnExactTreeOkUptoRow.holds Try.pinned (OpenSpec.upto fnExactTreeOkSpec)

/-- 'laws.FnExactUnset', WHERE WHAT IT READS IS OF BULK AT MOST 1048576: true; the input reads as it did. -/
def fnExactUnsetUptoRow : OpenClaim := { program := "ytnbnpgjgibcmpaa", sum := "92a3f13b88a3411fb4ba43785fe6eabc17b139f42abb7f98f8cc5b1ffc6025cb", func := "loop.example/g00465/laws.FnExactUnset", spec := "fnExactUnset", recurses := true, loops := true, apart := false, narrowed := true }
def FnExactUnsetUptoSaid : Prop := fnExactUnsetUptoRow.holds Try.pinned (OpenSpec.upto fnExactUnsetSpec)

/-- 'laws.FnExactSet', WHERE WHAT IT READS IS OF BULK AT MOST 1048576: true; the input reads as it did. -/
def fnExactSetUptoRow : OpenClaim := { program := "ytnbnpgjgibcmpaa", sum := "92a3f13b88a3411fb4ba43785fe6eabc17b139f42abb7f98f8cc5b1ffc6025cb", func := "loop.example/g00465/laws.FnExactSet", spec := "fnExactSet", inPlace := ["slices.overlaps[string]", "slices.overlaps[loop.example/g00465/impl.Node]"], unfollowed := true, recurses := true, loops := true, apart := false, narrowed := true }
def FnExactSetUptoSaid : Prop := fnExactSetUptoRow.holds Try.pinned (OpenSpec.upto fnExactSetSpec)

/-- 'laws.FnExactPaceTree', WHERE WHAT IT READS IS OF BULK AT MOST 1048576: true; the input reads as it did. -/
def fnExactPaceTreeUptoRow : OpenClaim := { program := "ytnbnpgjgibcmpaa", sum := "92a3f13b88a3411fb4ba43785fe6eabc17b139f42abb7f98f8cc5b1ffc6025cb", func := "loop.example/g00465/laws.FnExactPaceTree", spec := "fnExactPaceTree", inPlace := ["slices.overlaps[string]", "slices.overlaps[loop.example/g00465/impl.Node]"], unfollowed := true, recurses := true, apart := false, narrowed := true }
def FnExactPaceTreeUptoSaid : Prop := fnExactPaceTreeUptoRow.holds Try.pinned (OpenSpec.upto fnExactPaceTreeSpec)

/-- 'laws.FnExactMetricTree', WHERE WHAT IT READS IS OF BULK AT MOST 1048576: true; the input reads as it did. -/
def fnExactMetricTreeUptoRow : OpenClaim := { program := "ytnbnpgjgibcmpaa", sum := "92a3f13b88a3411fb4ba43785fe6eabc17b139f42abb7f98f8cc5b1ffc6025cb", func := "loop.example/g00465/laws.FnExactMetricTree", spec := "fnExactMetricTree", inPlace := ["slices.overlaps[string]", "slices.overlaps[loop.example/g00465/impl.Node]"], unfollowed := true, recurses := true, apart := false, narrowed := true }
def FnExactMetricTreeUptoSaid : Prop := fnExactMetricTreeUptoRow.holds Try.pinned (OpenSpec.upto fnExactMetricTreeSpec)

/-- 'laws.FnExactBraced', WHERE WHAT IT READS IS OF BULK AT MOST 1048576: true; the input reads as it did. -/
def fnExactBracedUptoRow : OpenClaim := { program := "ytnbnpgjgibcmpaa", sum := "92a3f13b88a3411fb4ba43785fe6eabc17b139f42abb7f98f8cc5b1ffc6025cb", func := "loop.example/g00465/laws.FnExactBraced", spec := "fnExactBraced", inPlace := ["internal/abi.NoEscape", "internal/bytealg.MakeNoZero"], unfollowed := true, recurses := true, loops := true, apart := false, narrowed := true }
def FnExactBracedUptoSaid : Prop := fnExactBracedUptoRow.holds Try.pinned (OpenSpec.upto fnExactBracedSpec)

/-- 'laws.FnExactInline', WHERE WHAT IT READS IS OF BULK AT MOST 1048576: true; the input reads as it did. -/
def fnExactInlineUptoRow : OpenClaim := { program := "ytnbnpgjgibcmpaa", sum := "92a3f13b88a3411fb4ba43785fe6eabc17b139f42abb7f98f8cc5b1ffc6025cb", func := "loop.example/g00465/laws.FnExactInline", spec := "fnExactInline", inPlace := ["internal/bytealg.IndexByteString", "internal/abi.NoEscape", "internal/bytealg.MakeNoZero"], unfollowed := true, recurses := true, loops := true, apart := false, narrowed := true }
def FnExactInlineUptoSaid : Prop := fnExactInlineUptoRow.holds Try.pinned (OpenSpec.upto fnExactInlineSpec)

/-- 'laws.FnTrees', WHERE WHAT IT READS IS OF BULK AT MOST 1048576: true; the input reads as it did. -/
def fnTreesUptoRow : OpenClaim := { program := "ytnbnpgjgibcmpaa", sum := "92a3f13b88a3411fb4ba43785fe6eabc17b139f42abb7f98f8cc5b1ffc6025cb", func := "loop.example/g00465/laws.FnTrees", spec := "fnTrees", inPlace := ["slices.overlaps[string]", "slices.overlaps[loop.example/g00465/impl.Node]"], unfollowed := true, recurses := true, apart := false, narrowed := true }
def FnTreesUptoSaid : Prop := fnTreesUptoRow.holds Try.pinned (OpenSpec.upto fnTreesSpec)

/-- 'laws.FnExactIndented', WHERE WHAT IT READS IS OF BULK AT MOST 1048576: true; the input reads as it did. -/
def fnExactIndentedUptoRow : OpenClaim := { program := "ytnbnpgjgibcmpaa", sum := "92a3f13b88a3411fb4ba43785fe6eabc17b139f42abb7f98f8cc5b1ffc6025cb", func := "loop.example/g00465/laws.FnExactIndented", spec := "fnExactIndented", inPlace := ["internal/bytealg.IndexByteString", "internal/abi.NoEscape", "internal/bytealg.MakeNoZero"], unfollowed := true, recurses := true, loops := true, apart := false, narrowed := true }
def FnExactIndentedUptoSaid : Prop := fnExactIndentedUptoRow.holds Try.pinned (OpenSpec.upto fnExactIndentedSpec)

end Rows
end Go.Proofs.Ytnbnpgjgibcmpaa
