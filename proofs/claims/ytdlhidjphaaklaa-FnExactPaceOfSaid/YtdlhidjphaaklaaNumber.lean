/- Number: program and reference read the same: the number of which the text is Digits. -/
import Derived.Test.YtdlhidjphaaklaaAid
import Derived.Test.YtdlhidjphaaklaaBytes
import Derived.Test.YtdlhidjphaaklaaDigits
import Derived.Test.YtdlhidjphaaklaaP_impl_PaceNew
import Derived.Test.YtdlhidjphaaklaaP_spec_Get
namespace Go.Proofs.Ytdlhidjphaaklaa.M
open Go.RowKit Go.Proofs.Ytdlhidjphaaklaa.P Go.Proofs.YtdlhidjphaaklaaW.PrintWords

theorem tl_inj {a b : ByteArray} : a.toList = b.toList ↔ a = b := by
  rw [Lib.toList_data, Lib.toList_data]
  constructor
  · intro h
    apply ByteArray.ext
    exact Array.ext' h
  · rintro rfl; rfl
theorem tl_nil {a : ByteArray} : a.toList = ([] : List UInt8) ↔ a.size = 0 := by
  rw [Lib.toList_data]
  constructor
  · intro h; rw [← data_length, h]; rfl
  · intro h
    have : a.data.toList.length = 0 := by rw [data_length]; exact h
    exact List.length_eq_zero_iff.1 this
theorem bytesOf_drop (s : ByteArray) (i : Nat) : bytesOf (s.extract i s.size) = (bytesOf s).drop i := by
  unfold bytesOf
  rw [Lib.extract_data, List.take_of_length_le (by rw [List.length_drop, data_length]; omega), List.map_drop]
theorem bytesOf_take (s : ByteArray) (i : Nat) : bytesOf (s.extract 0 i) = (bytesOf s).take i := by
  unfold bytesOf
  rw [Lib.extract_data, List.drop_zero, List.map_take, Nat.sub_zero]
theorem bytesOf_inj {a b : ByteArray} (h : bytesOf a = bytesOf b) : a = b := by
  unfold bytesOf at h
  apply ByteArray.ext
  apply Array.ext'
  exact List.map_inj_right (by intro x y e; exact UInt8.toNat_inj.1 (by omega)) |>.1 h
theorem drop_bytes' (s : ByteArray) (i : Nat) (h : i < s.size) : (bytesOf s).drop i = bt s i :: (bytesOf s).drop (i + 1) := by
  have hl : i < (bytesOf s).length := by rw [bytesOf_length]; exact h
  rw [List.drop_eq_getElem_cons hl]
  congr 1
  have := rd_bytesOf s i
  unfold rd at this
  rw [Int.toNat_natCast, List.getD_eq_getElem?_getD, List.getElem?_eq_getElem hl] at this
  exact this
/-- The value of digits, behind what was read ahead of them. -/
def valL (acc : Int) (l : List Int) : Int := l.foldl (fun a c => 10 * a + (c - 48)) acc
def fin (s : ByteArray) (x : Int) : Int × Bool := if digits x = s ∧ inB x (-1000000000000) 1000000000000 = true then (x, true) else (0, false)
def sg (s t : ByteArray) (x : Int) : Int := if t.size < s.size then -x else x
def run (s t : ByteArray) (l : List Int) (acc : Int) : Int × Bool := if l.all digB = true then fin s (sg s t (valL acc l)) else (0, false)
theorem spec_j4 (s : ByteArray) (x : Int) (h0 : -10000000000000 ≤ x) (h1 : x ≤ 10000000000000) (k : Nat) (hk : BIG < k) : spec_Number.j4 k s x = some (fin s x) := by
  unfold BIG at hk
  obtain ⟨k, rfl⟩ : ∃ m, k = m + 1 := ⟨k - 1, by omega⟩
  simp only [spec_Number.j4]
  rw [spec_digits x (by omega) (by omega) k (by omega), Option.bind_some, l1In_eq, Option.bind_some]
  simp only [tl_inj]
  unfold fin
  by_cases h : digits x = s <;> cases inB x (-1000000000000) 1000000000000 <;> simp [h]
theorem impl_j4 (s : ByteArray) (x : Int) (h0 : -10000000000000 ≤ x) (h1 : x ≤ 10000000000000) (k : Nat) (hk : BIG < k) : impl_Number.j4 k s x = some (fin s x) := by
  unfold BIG at hk
  obtain ⟨k, rfl⟩ : ∃ m, k = m + 1 := ⟨k - 1, by omega⟩
  simp only [impl_Number.j4]
  rw [impl_digits x (by omega) (by omega) k (by omega), from_eq, Option.bind_some, Option.bind_some]
  simp only [tl_inj]
  unfold fin
  by_cases h : digits x = s <;> cases inB x (-1000000000000) 1000000000000 <;> simp [h]
theorem pow_mono {i j : Nat} (h : i ≤ j) : (10 : Nat) ^ i ≤ 10 ^ j := Nat.pow_le_pow_right (by omega) h
theorem num_loop (s t : ByteArray) (ht : t.size ≤ 13) : ∀ (d i k : Nat) (acc : Int), i + d = t.size → d + BIG + 1 < k → 0 ≤ acc → acc < ((10 ^ i : Nat) : Int) →
    spec_Number.l0 k s t acc (i : Int) = some (run s t ((bytesOf t).drop i) acc) ∧ impl_Number.l0 k s t acc (t.size : Int) (i : Int) = some (run s t ((bytesOf t).drop i) acc) := by
  intro d
  induction d with
  | zero =>
    intro i k acc hi hk h0 h1
    obtain ⟨k, rfl⟩ : ∃ m, k = m + 1 := ⟨k - 1, by omega⟩
    obtain rfl : i = t.size := by omega
    have hp := pow_mono ht
    rw [List.drop_of_length_le (by rw [bytesOf_length]; omega)]
    simp only [run, List.all_nil, if_pos, valL, List.foldl_nil]
    unfold BIG at hk
    have hB : BIG < k := by unfold BIG; omega
    refine ⟨?_, ?_⟩
    · simp only [spec_Number.l0]
      rw [if_neg (by omega)]
      unfold sg
      by_cases hlt : (t.size : Int) < (s.size : Int)
      · rw [if_pos hlt, if_pos (by omega), w64 (by omega) (by omega)]
        exact spec_j4 s _ (by omega) (by omega) k hB
      · rw [if_neg hlt, if_neg (by omega)]
        exact spec_j4 s _ (by omega) (by omega) k hB
    · simp only [impl_Number.l0]
      rw [if_neg (by omega)]
      unfold sg
      by_cases hlt : (t.size : Int) < (s.size : Int)
      · rw [if_pos hlt, if_pos (by omega), w64 (by omega) (by omega)]
        exact impl_j4 s _ (by omega) (by omega) k hB
      · rw [if_neg hlt, if_neg (by omega)]
        exact impl_j4 s _ (by omega) (by omega) k hB
  | succ d ih =>
    intro i k acc hi hk h0 h1
    obtain ⟨k, rfl⟩ : ∃ m, k = m + 1 := ⟨k - 1, by omega⟩
    have hp := pow_mono (show i ≤ 12 by omega)
    have hb := bt_range t i
    rw [drop_bytes' t i (by omega)]
    unfold run
    rw [List.all_cons]
    have e1 : digB (bt t i) = true → wrap64 (wrap64 (wrap64 (10 * acc) + wrap64 (bt t i)) - 48) = 10 * acc + (bt t i - 48) := by
      intro _
      rw [w64 (i := 10 * acc) (by omega) (by omega), w64 (i := bt t i) (by omega) (by omega), w64 (i := 10 * acc + bt t i) (by omega) (by omega), w64 (by omega) (by omega)]
      omega
    have e2 : ¬ bt t i < 48 → wrap64 (wrap64 (10 * acc) + (bt t i - 48) % 256) = 10 * acc + (bt t i - 48) := by
      intro h
      have : (bt t i - 48) % 256 = bt t i - 48 := by omega
      rw [this, w64 (i := 10 * acc) (by omega) (by omega), w64 (by omega) (by omega)]
    have hq : ((10 ^ (i + 1) : Nat) : Int) = 10 * ((10 ^ i : Nat) : Int) := by rw [Nat.pow_succ]; omega
    refine ⟨?_, ?_⟩
    · simp only [spec_Number.l0]
      rw [if_pos (by omega), if_pos (by omega), wsucc (by omega)]
      by_cases hlo : bt t i < 48
      · have : digB (bt t i) = false := by unfold digB; rw [decide_eq_false (by omega), Bool.false_and]
        rw [if_pos hlo, this]
        simp
      · rw [if_neg hlo]
        by_cases hhi : bt t i > 57
        · have : digB (bt t i) = false := by unfold digB; rw [decide_eq_false (p := bt t i ≤ 57) (by omega), Bool.and_false]
          rw [if_pos hhi, this]
          simp
        · have hd : digB (bt t i) = true := by unfold digB; rw [decide_eq_true (by omega), decide_eq_true (by omega)]; rfl
          rw [if_neg hhi, hd, Bool.true_and, e1 hd]
          have := (ih (i + 1) k (10 * acc + (bt t i - 48)) (by omega) (by omega) (by omega) (by omega)).1
          unfold run at this
          exact this
    · simp only [impl_Number.l0]
      rw [if_pos (by omega), if_pos (by omega), if_pos (by omega), wsucc (by omega)]
      by_cases hlo : bt t i < 48
      · have : digB (bt t i) = false := by unfold digB; rw [decide_eq_false (by omega), Bool.false_and]
        rw [if_pos hlo, this]
        simp
      · rw [if_neg hlo]
        by_cases hhi : bt t i > 57
        · have : digB (bt t i) = false := by unfold digB; rw [decide_eq_false (p := bt t i ≤ 57) (by omega), Bool.and_false]
          rw [if_pos hhi, this]
          simp
        · have hd : digB (bt t i) = true := by unfold digB; rw [decide_eq_true (by omega), decide_eq_true (by omega)]; rfl
          rw [if_neg hhi, hd, Bool.true_and, e2 hlo]
          have := (ih (i + 1) k (10 * acc + (bt t i - 48)) (by omega) (by omega) (by omega) (by omega)).2
          unfold run at this
          exact this
def rest (s : ByteArray) : ByteArray := if 0 < s.size ∧ bt s 0 = 45 then s.extract 1 s.size else s
def number (s : ByteArray) : Int × Bool := if (rest s).size < 1 ∨ 13 < (rest s).size then (0, false) else run s (rest s) (bytesOf (rest s)) 0
theorem spec_j1 (s t : ByteArray) (k : Nat) (hk : BIG + 20 < k) : spec_Number.j1 k s t = some (if t.size < 1 ∨ 13 < t.size then (0, false) else run s t (bytesOf t) 0) := by
  obtain ⟨k, rfl⟩ : ∃ m, k = m + 2 := ⟨k - 2, by omega⟩
  simp only [spec_Number.j1, spec_Number.j2]
  by_cases h : (t.size : Int) < 1
  · rw [if_pos h]
    simp only [if_true]
    rw [if_pos (by omega)]
  · rw [if_neg h]
    by_cases h2 : (t.size : Int) > 13
    · rw [decide_eq_true h2]
      simp only [if_true]
      rw [if_pos (by omega)]
    · rw [decide_eq_false h2, if_neg (by simp), if_neg (by omega)]
      exact (num_loop s t (by omega) t.size 0 k 0 (by omega) (by omega) (by omega) (by omega)).1
theorem impl_j1 (s t : ByteArray) (k : Nat) (hk : BIG + 20 < k) : impl_Number.j1 k s t = some (if t.size < 1 ∨ 13 < t.size then (0, false) else run s t (bytesOf t) 0) := by
  obtain ⟨k, rfl⟩ : ∃ m, k = m + 2 := ⟨k - 2, by omega⟩
  simp only [impl_Number.j1, impl_Number.j2]
  by_cases h : t.size = 0
  · rw [if_pos (tl_nil.2 h)]
    simp only [if_true]
    rw [if_pos (by omega)]
  · rw [if_neg (fun e => h (tl_nil.1 e))]
    by_cases h2 : (t.size : Int) > 13
    · rw [decide_eq_true h2]
      simp only [if_true]
      rw [if_pos (by omega)]
    · rw [decide_eq_false h2, if_neg (by simp), if_neg (by omega)]
      exact (num_loop s t (by omega) t.size 0 k 0 (by omega) (by omega) (by omega) (by omega)).2
theorem spec_number (s : ByteArray) (k : Nat) (hk : BIG + 25 < k) : spec_Number.f k s = some (number s) := by
  obtain ⟨k, rfl⟩ : ∃ m, k = m + 1 := ⟨k - 1, by omega⟩
  unfold spec_Number.f number
  simp only [spec_Number.j0]
  by_cases h0 : 0 < s.size ∧ bt s 0 = 45
  · have hr : rest s = s.extract 1 s.size := if_pos h0
    have e : (bt s 0 == 45) = true := beq_iff_eq.2 h0.2
    have hp : (s.size : Int) > 0 := by omega
    rw [hr, if_pos hp, if_pos hp, e, if_pos rfl, if_pos (by omega)]
    exact spec_j1 _ _ _ (by omega)
  · have hr : rest s = s := if_neg h0
    rw [hr]
    by_cases h : (s.size : Int) > 0
    · have e : (bt s 0 == 45) = false := beq_eq_false_iff_ne.2 (fun h2 => h0 ⟨by omega, h2⟩)
      rw [if_pos h, if_pos h, e, if_neg (by simp)]
      exact spec_j1 _ _ _ (by omega)
    · rw [if_neg h, if_neg (by simp)]
      exact spec_j1 _ _ _ (by omega)
theorem impl_number (s : ByteArray) (k : Nat) (hk : BIG + 25 < k) : impl_Number.f k s = some (number s) := by
  obtain ⟨k, rfl⟩ : ∃ m, k = m + 1 := ⟨k - 1, by omega⟩
  unfold impl_Number.f number
  simp only [impl_Number.j0]
  by_cases h0 : 0 < s.size ∧ bt s 0 = 45
  · have hr : rest s = s.extract 1 s.size := if_pos h0
    have e : (bt s 0 == 45) = true := beq_iff_eq.2 h0.2
    rw [hr, if_neg (fun z => by have := tl_nil.1 z; omega), if_pos (by omega), e, if_pos rfl, if_pos (by omega)]
    exact impl_j1 _ _ _ (by omega)
  · have hr : rest s = s := if_neg h0
    rw [hr]
    by_cases h : s.size = 0
    · rw [if_pos (tl_nil.2 h), if_neg (by simp)]
      exact impl_j1 _ _ _ (by omega)
    · have e : (bt s 0 == 45) = false := beq_eq_false_iff_ne.2 (fun h2 => h0 ⟨by omega, h2⟩)
      rw [if_neg (fun e => h (tl_nil.1 e)), if_pos (by omega), e, if_neg (by simp)]
      exact impl_j1 _ _ _ (by omega)
/-! What a number is -/
theorem number_or (s : ByteArray) : number s = (0, false) ∨ (number s).2 = true ∧ digits (number s).1 = s ∧ -1000000000000 ≤ (number s).1 ∧ (number s).1 ≤ 1000000000000 := by
  unfold number run fin
  split
  · exact .inl rfl
  · split
    · split
      · rename_i h
        refine .inr ⟨rfl, h.1, ?_⟩
        have := h.2
        unfold inB at this
        simp only [Bool.and_eq_true, decide_eq_true_eq] at this
        exact this
      · exact .inl rfl
    · exact .inl rfl
end Go.Proofs.Ytdlhidjphaaklaa.M
