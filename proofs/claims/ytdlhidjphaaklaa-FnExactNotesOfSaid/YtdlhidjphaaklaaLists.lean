/- Loops over lists: what is made element by element, what is held against something, what is measured. -/
import Derived.Test.YtdlhidjphaaklaaAid
namespace Go.Proofs.Ytdlhidjphaaklaa.M
open Go.RowKit Go.Proofs.YtdlhidjphaaklaaW.PrintWords

/-- As 'scan', with a number of rounds that each round itself wants. -/
theorem scanK {g : Nat → Int → Option Bool} {n K : Nat} {P : Nat → Bool} {e : Bool} (hend : ∀ k, K ≤ k → g (k + 1) (n : Int) = some e)
    (hstep : ∀ k (i : Nat), K ≤ k → i < n → g (k + 1) (i : Int) = if P i = true then g k ((i + 1 : Nat) : Int) else some false) :
    ∀ (d i k : Nat), i + d = n → d + K < k → g k (i : Int) = some ((List.range' i d).all P && e) := by
  intro d
  induction d with
  | zero =>
    intro i k hi hk
    obtain ⟨k, rfl⟩ : ∃ m, k = m + 1 := ⟨k - 1, by omega⟩
    obtain rfl : i = n := by omega
    simp [hend k (by omega)]
  | succ d ih =>
    intro i k hi hk
    obtain ⟨k, rfl⟩ : ∃ m, k = m + 1 := ⟨k - 1, by omega⟩
    rw [hstep k i (by omega) (by omega), List.range'_succ, List.all_cons]
    by_cases h : P i = true
    · rw [if_pos h, ih (i + 1) k (by omega) (by omega), h, Bool.true_and]
    · rw [if_neg h]
      have : P i = false := by simpa using h
      rw [this, Bool.false_and, Bool.false_and]
/-- A row of so many zero values whose places are filled one behind the other. -/
theorem fill_loop {α β : Type} {g : Nat → List β → Int → Option (List β)} {xs : List α} {K : Nat} (conv : α → β) (hend : ∀ k acc, K ≤ k → g (k + 1) acc (xs.length : Int) = some acc)
    (hstep : ∀ k (acc : List β) (i : Nat) (h : i < xs.length), K ≤ k → acc.length = xs.length → g (k + 1) acc (i : Int) = g k (acc.set i (conv xs[i])) ((i + 1 : Nat) : Int)) :
    ∀ (d i k : Nat) (acc : List β), i + d = xs.length → d + K < k → acc.length = xs.length → acc.take i = (xs.map conv).take i → g k acc (i : Int) = some (xs.map conv) := by
  intro d
  induction d with
  | zero =>
    intro i k acc hi hk hl ht
    obtain ⟨k, rfl⟩ : ∃ m, k = m + 1 := ⟨k - 1, by omega⟩
    obtain rfl : i = xs.length := by omega
    rw [hend k acc (by omega), ← List.take_of_length_le (l := acc) (i := xs.length) (by omega), ht, List.take_of_length_le (by simp)]
  | succ d ih =>
    intro i k acc hi hk hl ht
    obtain ⟨k, rfl⟩ : ∃ m, k = m + 1 := ⟨k - 1, by omega⟩
    have hx : i < xs.length := by omega
    rw [hstep k acc i hx (by omega) hl]
    refine ih (i + 1) k _ (by omega) (by omega) (by simp [hl]) ?_
    have h1 : i < (acc.set i (conv xs[i])).length := by simp; omega
    have h2 : i < (xs.map conv).length := by simp; omega
    rw [List.take_succ_eq_append_getElem h1, List.take_succ_eq_append_getElem h2, List.getElem_set_self, List.getElem_map, List.take_set_of_le (by omega), ht]
theorem fill_all {α β : Type} {g : Nat → List β → Int → Option (List β)} {xs : List α} {K : Nat} (conv : α → β) (z : β) (hend : ∀ k acc, K ≤ k → g (k + 1) acc (xs.length : Int) = some acc)
    (hstep : ∀ k (acc : List β) (i : Nat) (h : i < xs.length), K ≤ k → acc.length = xs.length → g (k + 1) acc (i : Int) = g k (acc.set i (conv xs[i])) ((i + 1 : Nat) : Int)) (k : Nat) (hk : xs.length + K < k) :
    g k (List.replicate xs.length z) 0 = some (xs.map conv) := fill_loop conv hend hstep xs.length 0 k _ (by omega) hk (by simp) (by simp)
/-- What a measure answers: what is left, or -1. -/
def szLeft (tot : Nat) (left : Int) : Int := if (tot : Int) ≤ left then left - tot else -1
theorem szLeft_rng {tot : Nat} {left : Int} (h0 : -1 ≤ left) (h1 : left ≤ 1048576) : -1 ≤ szLeft tot left ∧ szLeft tot left ≤ 1048576 := by
  unfold szLeft
  split <;> omega
theorem szLeft_neg {tot : Nat} {left : Int} (h : ¬ szLeft tot left < 0) : (tot : Int) ≤ left := by
  unfold szLeft at h
  split at h <;> omega
/-- The elements' measures, one behind the other. -/
theorem sz_loop {α : Type} {g : Nat → Int → Int → Option Int} {xs : List α} {K : Nat} (tot : α → Nat) (hend : ∀ k left, K ≤ k → g (k + 1) left (xs.length : Int) = some left)
    (hstep : ∀ k left (i : Nat) (h : i < xs.length), K ≤ k → 0 ≤ left → left ≤ 1048576 → g (k + 1) left (i : Int) = if szLeft (tot xs[i]) left < 0 then some (-1) else g k (szLeft (tot xs[i]) left) ((i + 1 : Nat) : Int)) :
    ∀ (d i k : Nat) (left : Int), i + d = xs.length → d + K < k → 0 ≤ left → left ≤ 1048576 → g k left (i : Int) = some (szLeft ((xs.drop i).map tot).sum left) := by
  intro d
  induction d with
  | zero =>
    intro i k left hi hk h0 h1
    obtain ⟨k, rfl⟩ : ∃ m, k = m + 1 := ⟨k - 1, by omega⟩
    obtain rfl : i = xs.length := by omega
    rw [hend k left (by omega), List.drop_of_length_le (by omega)]
    simp [szLeft, h0]
  | succ d ih =>
    intro i k left hi hk h0 h1
    obtain ⟨k, rfl⟩ : ∃ m, k = m + 1 := ⟨k - 1, by omega⟩
    have hx : i < xs.length := by omega
    rw [hstep k left i hx (by omega) h0 h1, List.drop_eq_getElem_cons hx, List.map_cons, List.sum_cons]
    by_cases h : szLeft (tot xs[i]) left < 0
    · rw [if_pos h]
      unfold szLeft at h ⊢
      split at h
      · omega
      · rw [if_neg (by omega)]
    · have hle := szLeft_neg h
      have e : szLeft (tot xs[i]) left = left - tot xs[i] := if_pos hle
      rw [if_neg h, ih (i + 1) k _ (by omega) (by omega) (by omega) (by omega), e]
      unfold szLeft
      by_cases h2 : ((((xs.drop (i + 1)).map tot).sum : Nat) : Int) ≤ left - tot xs[i]
      · rw [if_pos h2, if_pos (by omega)]; congr 1; omega
      · rw [if_neg h2, if_neg (by omega)]
theorem tlb {a b : ByteArray} : a.toList = b.toList ↔ a = b := by
  rw [Lib.toList_data, Lib.toList_data]
  constructor
  · intro h
    apply ByteArray.ext
    exact Array.ext' h
  · rintro rfl; rfl
theorem mem_le_sum {α : Type} (tot : α → Nat) : ∀ (xs : List α) (x : α), x ∈ xs → tot x ≤ (xs.map tot).sum
  | y :: ys, x, h => by
    rw [List.map_cons, List.sum_cons]
    rcases List.mem_cons.1 h with rfl | h
    · omega
    · have := mem_le_sum tot ys x h; omega
end Go.Proofs.Ytdlhidjphaaklaa.M
