/- Trees without Keys and Kids: held against each other, marked, held. -/
import Derived.Test.YtnbnpgjgibcmpaaP_laws_eqStringS
import Derived.Test.YtnbnpgjgibcmpaaP_laws_markNode
namespace Go.Proofs.Ytnbnpgjgibcmpaa.M
open Go.RowKit Go.Proofs.Ytnbnpgjgibcmpaa.P Go.Proofs.YtnbnpgjgibcmpaaW.PrintWords

theorem eqLeaf (a b : Int) (s : ByteArray) : laws_eqNode.f 5 a b s [] [] a b s [] [] = some true := by
  simp [laws_eqNode.f, laws_eqStringS.f, laws_eqStringS.l0, laws_eqNodeS.f, laws_eqNodeS.l0]
theorem heldLeaf (a b : Int) (s : ByteArray) : laws_heldNode.f 5 a b s [] [] 1 = some 1 := by
  simp [laws_heldNode.f, laws_heldStringS.f, laws_heldStringS.l0, laws_heldNodeS.f, laws_heldNodeS.l0]
theorem markLeaf (a b : Int) (s : ByteArray) : laws_markNode.f a b s [] [] 1 = some 1 := by
  simp [laws_markNode.f]
end Go.Proofs.Ytnbnpgjgibcmpaa.M
