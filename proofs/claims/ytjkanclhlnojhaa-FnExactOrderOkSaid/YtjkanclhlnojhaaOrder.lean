/- Notes and orders: measured, made of what came in, held against each other; the program's OrderSame and the reference's are one function. -/
import Derived.Test.YtjkanclhlnojhaaAid
import Derived.Test.YtjkanclhlnojhaaBytes
import Derived.Test.YtjkanclhlnojhaaLists
import Derived.Test.YtjkanclhlnojhaaP_laws_eqNote
import Derived.Test.YtjkanclhlnojhaaP_laws_szNote
import Derived.Test.YtjkanclhlnojhaaP_laws_toPace
import Derived.Test.YtjkanclhlnojhaaShare
namespace Go.Proofs.Ytjkanclhlnojhaa.M
open Go.RowKit Go.Proofs.Ytjkanclhlnojhaa.P Go.Proofs.YtjkanclhlnojhaaW.PrintWords

def totNote (m : S109) : Nat := m.f0.size + m.f1.size
def toN (m : S109) : S94 := ⟨m.f0, m.f1⟩
theorem szNote_eq (m : S109) (hm : m.f0.size ≤ maxLen) (hm2 : m.f1.size ≤ maxLen) (left : Int) (h0 : 0 ≤ left) (h1 : left ≤ 1048576) : laws_szNote.f m.f0 m.f1 left = some (szLeft (totNote m) left) := by
  unfold maxLen at hm hm2
  unfold laws_szNote.f szLeft totNote
  rw [w64 (by omega) (by omega)]
  by_cases h : left - (m.f0.size : Int) < 0
  · rw [if_pos h, if_neg (by omega)]
  · rw [if_neg h, w64 (by omega) (by omega)]
    by_cases h2 : left - (m.f0.size : Int) - (m.f1.size : Int) < 0
    · rw [if_pos h2, if_neg (by omega)]
    · rw [if_neg h2, if_pos (by omega)]; congr 1; omega
theorem szNoteS_eq (l : List S109) (hl : l.length ≤ maxLen) (hm : ∀ m ∈ l, m.f0.size ≤ maxLen ∧ m.f1.size ≤ maxLen) (left : Int) (h0 : 0 ≤ left) (h1 : left ≤ 1048576) (k : Nat) (hk : l.length < k) :
    laws_szNoteS.f k l left = some (szLeft (l.length + (l.map totNote).sum) left) := by
  unfold maxLen at hl
  unfold laws_szNoteS.f
  rw [w64 (by omega) (by omega)]
  by_cases h : left - (l.length : Int) < 0
  · rw [if_pos h]
    unfold szLeft
    rw [if_neg (by omega)]
  · rw [if_neg h]
    have e := sz_loop (g := fun k left i => laws_szNoteS.l0 k l left i) (xs := l) (K := 0) totNote (fun k left _ => by simp only [laws_szNoteS.l0]; rw [if_neg (by omega)])
      (fun k left i hi _ hl0 hl1 => by
        simp only [laws_szNoteS.l0]
        have er : rd_T109 l (i : Int) = l[i] := getD_at l _ i hi
        rw [if_pos (by omega), if_pos (by omega), er, szNote_eq _ (hm _ (List.getElem_mem hi)).1 (hm _ (List.getElem_mem hi)).2 left hl0 hl1, Option.bind_some, wsucc (by omega)])
      l.length 0 k (left - l.length) (by omega) (by omega) (by omega) (by omega)
    have e0 : ((0 : Nat) : Int) = 0 := rfl
    rw [e0, List.drop_zero] at e
    rw [e]
    unfold szLeft
    by_cases h2 : (((l.map totNote).sum : Nat) : Int) ≤ left - l.length
    · rw [if_pos h2, if_pos (by omega)]; congr 1; omega
    · rw [if_neg h2, if_neg (by omega)]
theorem toNoteS_eq (l : List S109) (hl : l.length ≤ 1048576) (k : Nat) (hk : l.length < k) : laws_toNoteS.f k l = some (l.map toN) := by
  unfold laws_toNoteS.f
  rw [if_pos (by omega), Int.toNat_natCast, if_pos (by omega)]
  refine fill_all (g := fun k acc i => laws_toNoteS.l0 k l acc i) (K := 0) toN _ (fun k acc _ => ?_) (fun k acc i hi _ ha => ?_) k (by omega)
  · simp only [laws_toNoteS.l0]; rw [if_neg (by omega)]
  · simp only [laws_toNoteS.l0, laws_toNote.f, Option.bind_some]
    have er : rd_T109 l (i : Int) = l[i] := getD_at l _ i hi
    rw [if_pos (by omega), if_pos (by omega), if_pos (by omega), er, wsucc (by omega), Int.toNat_natCast]
    rfl
def eqN (a b : S94) : Bool := decide (a.f0 = b.f0) && decide (a.f1 = b.f1)
theorem eqNote_eq (a b : S94) : laws_eqNote.f a.f0 a.f1 b.f0 b.f1 = some (eqN a b) := by
  unfold laws_eqNote.f eqN
  by_cases h : a.f0 = b.f0 <;> by_cases h1 : a.f1 = b.f1 <;> simp [tlb, h, h1]
theorem eqN_self (a : S94) : eqN a a = true := by unfold eqN; simp
theorem eqNoteS_self (l : List S94) (hl : l.length ≤ 1048576) (k : Nat) (hk : l.length < k) : laws_eqNoteS.f k l l = some true := by
  unfold laws_eqNoteS.f
  rw [if_pos rfl]
  have e := scanK (g := fun k i => laws_eqNoteS.l0 k l l i) (n := l.length) (K := 0) (P := fun _ => true) (e := true) (fun k _ => by simp only [laws_eqNoteS.l0]; rw [if_neg (by omega)])
    (fun k i _ hi => by
      simp only [laws_eqNoteS.l0]
      rw [if_pos (by omega), if_pos (by omega), if_pos (by omega), eqNote_eq, eqN_self, Option.bind_some, wsucc (by omega), if_pos rfl, if_pos trivial]) l.length 0 k (by omega) (by omega)
  have e0 : ((0 : Nat) : Int) = 0 := rfl
  rw [e0] at e
  rw [e]
  simp
/-! Orders -/
def totOrder (o : S60) : Nat := o.f0.size + o.f1.size + (o.f4.length + (o.f4.map totMetric).sum) + (o.f6.length + (o.f6.map totNote).sum)
structure OrderIn (o : S60) : Prop where
  n : o.f0.size ≤ maxLen
  t : o.f1.size ≤ maxLen
  ml : o.f4.length ≤ maxLen
  m : ∀ x ∈ o.f4, x.f0.size ≤ maxLen
  nl : o.f6.length ≤ maxLen
  no : ∀ x ∈ o.f6, x.f0.size ≤ maxLen ∧ x.f1.size ≤ maxLen
theorem szOrder_eq (o : S60) (g : OrderIn o) (left : Int) (h0 : 0 ≤ left) (h1 : left ≤ 1048576) (k : Nat) (hk : o.f4.length < k) (hk2 : o.f6.length < k) :
    laws_szOrder.f k o.f0 o.f1 o.f2 o.f3 o.f4 o.f5.f0 o.f5.f1 o.f5.f2 o.f5.f3 o.f6 left = some (szLeft (totOrder o) left) := by
  have gn := g.n; have gt := g.t
  unfold maxLen at gn gt
  unfold laws_szOrder.f
  rw [w64 (by omega) (by omega)]
  have key : ∀ n : Nat, (n : Int) ≤ totOrder o → left - (n : Int) < 0 → szLeft (totOrder o) left = -1 := by
    intro n h h2; unfold szLeft; rw [if_neg (by omega)]
  by_cases h : left - (o.f0.size : Int) < 0
  · rw [if_pos h, key o.f0.size (by unfold totOrder; omega) h]
  · rw [if_neg h, w64 (by omega) (by omega)]
    by_cases h2 : left - (o.f0.size : Int) - (o.f1.size : Int) < 0
    · rw [if_pos h2, key (o.f0.size + o.f1.size) (by unfold totOrder; omega) (by omega)]
    · rw [if_neg h2, szMetricS_eq _ g.ml g.m _ (by omega) (by omega) _ hk, Option.bind_some]
      by_cases h3 : szLeft (o.f4.length + (o.f4.map totMetric).sum) (left - o.f0.size - o.f1.size) < 0
      · rw [if_pos h3]
        unfold szLeft at h3 ⊢
        unfold totOrder
        split at h3
        · omega
        · rw [if_neg (by omega)]
      · have h4 := szLeft_neg h3
        have e : szLeft (o.f4.length + (o.f4.map totMetric).sum) (left - o.f0.size - o.f1.size) = left - o.f0.size - o.f1.size - ((o.f4.length + (o.f4.map totMetric).sum : Nat) : Int) := if_pos h4
        rw [if_neg h3, e, szNoteS_eq _ g.nl g.no _ (by omega) (by omega) _ hk2, Option.bind_some]
        unfold szLeft totOrder
        by_cases h5 : ((o.f6.length + (o.f6.map totNote).sum : Nat) : Int) ≤ left - o.f0.size - o.f1.size - ((o.f4.length + (o.f4.map totMetric).sum : Nat) : Int)
        · rw [if_pos h5, if_neg (by omega), if_pos (by omega)]; congr 1; omega
        · rw [if_neg h5, if_pos (by omega), if_neg (by omega)]
theorem toOrder_eq (o : S60) (h1 : o.f4.length ≤ 1048576) (h2 : o.f6.length ≤ 1048576) (k : Nat) (hk : o.f4.length < k) (hk2 : o.f6.length < k) :
    laws_toOrder.f k o.f0 o.f1 o.f2 o.f3 o.f4 o.f5.f0 o.f5.f1 o.f5.f2 o.f5.f3 o.f6 = some (o.f0, o.f1, o.f2, o.f3, o.f4.map toM, o.f5.f0, o.f5.f1, o.f5.f2, o.f5.f3, o.f6.map toN) := by
  unfold laws_toOrder.f laws_toPace.f
  rw [toMetricS_eq _ h1 _ hk, Option.bind_some, Option.bind_some, toNoteS_eq _ h2 _ hk2, Option.bind_some]
theorem eqOrder_self (n t : ByteArray) (lo hi : Int) (ms : List S35) (p0 p1 p2 p3 : Int) (ns : List S94) (h1 : ms.length ≤ 1048576) (h2 : ns.length ≤ 1048576) (k : Nat) (hk : ms.length < k) (hk2 : ns.length < k) :
    laws_eqOrder.f k n t lo hi ms p0 p1 p2 p3 ns n t lo hi ms p0 p1 p2 p3 ns = some true := by
  unfold laws_eqOrder.f laws_eqPace.f
  simp [eqMetricS_self _ h1 _ hk, eqNoteS_self _ h2 _ hk2]
end Go.Proofs.Ytjkanclhlnojhaa.M
