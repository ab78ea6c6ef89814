/- Metrics as lists: measured, made of what came in, held against each other; ShareOf. -/
import Derived.Test.YtjkanclhlnojhaaAid
import Derived.Test.YtjkanclhlnojhaaBytes
import Derived.Test.YtjkanclhlnojhaaLists
import Derived.Test.YtjkanclhlnojhaaP_laws_szMetricS
import Derived.Test.YtjkanclhlnojhaaP_spec_ShareOf
namespace Go.Proofs.Ytjkanclhlnojhaa.M
open Go.RowKit Go.Proofs.Ytjkanclhlnojhaa.P Go.Proofs.YtjkanclhlnojhaaW.PrintWords

theorem getD_at {α : Type} (xs : List α) (z : α) (i : Nat) (h : i < xs.length) : xs.getD ((i : Int).toNat) z = xs[i] := by
  rw [Int.toNat_natCast, List.getD_eq_getElem?_getD, List.getElem?_eq_getElem h]; rfl
def totMetric (m : S32) : Nat := m.f0.size
def toM (m : S32) : S35 := ⟨m.f0, m.f1, m.f2⟩
theorem szMetric_eq (m : S32) (hm : m.f0.size ≤ maxLen) (left : Int) (h0 : 0 ≤ left) (h1 : left ≤ 1048576) : laws_szMetric.f m.f0 m.f1 m.f2 left = some (szLeft (totMetric m) left) := by
  unfold maxLen at hm
  unfold laws_szMetric.f szLeft totMetric
  rw [w64 (by omega) (by omega)]
  by_cases h : left - (m.f0.size : Int) < 0
  · rw [if_pos h, if_neg (by omega)]
  · rw [if_neg h, if_pos (by omega)]
theorem szMetricS_eq (l : List S32) (hl : l.length ≤ maxLen) (hm : ∀ m ∈ l, m.f0.size ≤ maxLen) (left : Int) (h0 : 0 ≤ left) (h1 : left ≤ 1048576) (k : Nat) (hk : l.length < k) :
    laws_szMetricS.f k l left = some (szLeft (l.length + (l.map totMetric).sum) left) := by
  unfold maxLen at hl
  unfold laws_szMetricS.f
  rw [w64 (by omega) (by omega)]
  by_cases h : left - (l.length : Int) < 0
  · rw [if_pos h]
    unfold szLeft
    rw [if_neg (by omega)]
  · rw [if_neg h]
    have e := sz_loop (g := fun k left i => laws_szMetricS.l0 k l left i) (xs := l) (K := 0) totMetric (fun k left _ => by simp only [laws_szMetricS.l0]; rw [if_neg (by omega)])
      (fun k left i hi _ hl0 hl1 => by
        simp only [laws_szMetricS.l0]
        have er : rd_T32 l (i : Int) = l[i] := getD_at l _ i hi
        rw [if_pos (by omega), if_pos (by omega), er, szMetric_eq _ (hm _ (List.getElem_mem hi)) left hl0 hl1, Option.bind_some, wsucc (by omega)])
      l.length 0 k (left - l.length) (by omega) (by omega) (by omega) (by omega)
    have e0 : ((0 : Nat) : Int) = 0 := rfl
    rw [e0, List.drop_zero] at e
    rw [e]
    unfold szLeft
    by_cases h2 : (((l.map totMetric).sum : Nat) : Int) ≤ left - l.length
    · rw [if_pos h2, if_pos (by omega)]; congr 1; omega
    · rw [if_neg h2, if_neg (by omega)]
theorem toMetricS_eq (l : List S32) (hl : l.length ≤ 1048576) (k : Nat) (hk : l.length < k) : laws_toMetricS.f k l = some (l.map toM) := by
  unfold laws_toMetricS.f
  rw [if_pos (by omega), Int.toNat_natCast, if_pos (by omega)]
  refine fill_all (g := fun k acc i => laws_toMetricS.l0 k l acc i) (K := 0) toM _ (fun k acc _ => ?_) (fun k acc i hi _ ha => ?_) k (by omega)
  · simp only [laws_toMetricS.l0]; rw [if_neg (by omega)]
  · simp only [laws_toMetricS.l0, laws_toMetric.f, Option.bind_some]
    have er : rd_T32 l (i : Int) = l[i] := getD_at l _ i hi
    rw [if_pos (by omega), if_pos (by omega), if_pos (by omega), er, wsucc (by omega), Int.toNat_natCast]
    rfl
def eqM (a b : S35) : Bool := decide (a.f0 = b.f0) && decide (a.f1 = b.f1) && decide (a.f2 = b.f2)
theorem eqMetric_eq (a b : S35) : laws_eqMetric.f a.f0 a.f1 a.f2 b.f0 b.f1 b.f2 = some (eqM a b) := by
  unfold laws_eqMetric.f eqM
  by_cases h : a.f0 = b.f0 <;> by_cases h1 : a.f1 = b.f1 <;> by_cases h2 : a.f2 = b.f2 <;> simp [tlb, h, h1, h2]
theorem eqM_self (a : S35) : eqM a a = true := by unfold eqM; simp
theorem eqMetricS_self (l : List S35) (hl : l.length ≤ 1048576) (k : Nat) (hk : l.length < k) : laws_eqMetricS.f k l l = some true := by
  unfold laws_eqMetricS.f
  rw [if_pos rfl]
  have e := scanK (g := fun k i => laws_eqMetricS.l0 k l l i) (n := l.length) (K := 0) (P := fun _ => true) (e := true) (fun k _ => by simp only [laws_eqMetricS.l0]; rw [if_neg (by omega)])
    (fun k i _ hi => by
      simp only [laws_eqMetricS.l0]
      rw [if_pos (by omega), if_pos (by omega), if_pos (by omega), eqMetric_eq, eqM_self, Option.bind_some, wsucc (by omega), if_pos rfl, if_pos trivial]) l.length 0 k (by omega) (by omega)
  have e0 : ((0 : Nat) : Int) = 0 := rfl
  rw [e0] at e
  rw [e]
  simp
/-! ShareOf -/
def isShare (m : S35) : Bool := decide (m.f0.toList = ([99, 112, 117] : List UInt8)) && decide (m.f1 = 1) && decide (Int.tmod m.f2 10 = 0) && inB (wrap64 (Int.tdiv m.f2 10)) 1 1000
def shareOf (l : List S35) : Int × Bool := match l.find? isShare with
  | some m => (wrap64 (Int.tdiv m.f2 10), true)
  | none => (0, false)
theorem share_loop (l : List S35) (hl : l.length ≤ 1048576) : ∀ (d i k : Nat), i + d = l.length → d < k → spec_ShareOf.l0 k l (i : Int) = some (shareOf (l.drop i)) ∧ impl_ShareOf.l0 k l (l.length : Int) (i : Int) = some (shareOf (l.drop i)) := by
  intro d
  induction d with
  | zero =>
    intro i k hi hk
    obtain ⟨k, rfl⟩ : ∃ m, k = m + 1 := ⟨k - 1, by omega⟩
    rw [List.drop_of_length_le (by omega)]
    refine ⟨?_, ?_⟩
    · simp only [spec_ShareOf.l0]; rw [if_neg (by omega)]; rfl
    · simp only [impl_ShareOf.l0]; rw [if_neg (by omega)]; rfl
  | succ d ih =>
    intro i k hi hk
    obtain ⟨k, rfl⟩ : ∃ m, k = m + 1 := ⟨k - 1, by omega⟩
    have hx : i < l.length := by omega
    obtain ⟨ih1, ih2⟩ := ih (i + 1) k (by omega) (by omega)
    have er : rd_T35 l (i : Int) = l[i] := getD_at l _ i hx
    rw [List.drop_eq_getElem_cons hx]
    have es : shareOf (l[i] :: l.drop (i + 1)) = if isShare l[i] = true then (wrap64 (Int.tdiv l[i].f2 10), true) else shareOf (l.drop (i + 1)) := by
      unfold shareOf
      rw [List.find?_cons]
      cases isShare l[i] <;> rfl
    rw [es]
    refine ⟨?_, ?_⟩
    · simp only [spec_ShareOf.l0, l1In_eq, Option.bind_some]
      rw [if_pos (by omega), if_pos (by omega), er, wsucc (by omega), ih1]
      unfold isShare
      by_cases h1 : l[i].f0.toList = ([99, 112, 117] : List UInt8) <;> by_cases h2 : l[i].f1 = 1 <;> by_cases h3 : Int.tmod l[i].f2 10 = 0 <;> cases inB (wrap64 (Int.tdiv l[i].f2 10)) 1 1000 <;> simp [h1, h2, h3]
    · simp only [impl_ShareOf.l0, from_eq, Option.bind_some]
      rw [if_pos (by omega), if_pos (by omega), if_pos (by omega), er, wsucc (by omega), ih2]
      unfold isShare
      by_cases h1 : l[i].f0.toList = ([99, 112, 117] : List UInt8) <;> by_cases h2 : l[i].f1 = 1 <;> by_cases h3 : Int.tmod l[i].f2 10 = 0 <;> cases inB (wrap64 (Int.tdiv l[i].f2 10)) 1 1000 <;> simp [h1, h2, h3]
theorem spec_share (l : List S35) (hl : l.length ≤ 1048576) (k : Nat) (hk : l.length < k) : spec_ShareOf.f k l = some (shareOf l) := (share_loop l hl l.length 0 k (by omega) hk).1
theorem impl_share (l : List S35) (hl : l.length ≤ 1048576) (k : Nat) (hk : l.length < k) : impl_ShareOf.f k l = some (shareOf l) := (share_loop l hl l.length 0 k (by omega) hk).2
end Go.Proofs.Ytjkanclhlnojhaa.M
