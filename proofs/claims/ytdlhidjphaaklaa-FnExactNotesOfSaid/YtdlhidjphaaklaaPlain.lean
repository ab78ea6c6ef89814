/- PlainOk: what program and reference answer is one and the same plain function. -/
import Derived.Test.YtdlhidjphaaklaaAid
import Derived.Test.YtdlhidjphaaklaaBytes
import Derived.Test.YtdlhidjphaaklaaDigit
import Derived.Test.YtdlhidjphaaklaaP_impl_isLetter
import Derived.Test.YtdlhidjphaaklaaP_spec_PlainOk
import Derived.Test.YtdlhidjphaaklaaP_spec_l3Keys
namespace Go.Proofs.Ytdlhidjphaaklaa.M
open Go.RowKit Go.Proofs.Ytdlhidjphaaklaa.P Go.Proofs.YtdlhidjphaaklaaW.PrintWords

theorem isLetter_eq (c : Int) : impl_isLetter.f c = some (lowB c || upB c) := by
  unfold impl_isLetter.f lowB upB
  by_cases h1 : c ≥ 97 <;> by_cases h2 : c ≤ 122 <;> by_cases h3 : c ≥ 65 <;> by_cases h4 : c ≤ 90 <;> (try (exfalso; omega)) <;> simp [h1, h2, h3, h4] <;> omega
theorem l5Letter_eq (c : Int) : spec_l5Letter.f c = some (lowB c || upB c) := isLetter_eq c
theorem idx_plain : ∀ c : Fin 256, decide (Lib.indexByte ([95, 46, 47, 45] : List UInt8) (UInt8.ofNat c.val) < 0) = !(decide (c.val = 95) || decide (c.val = 46) || decide (c.val = 47) || decide (c.val = 45)) := by decide +kernel
theorem idx_plain' (s : ByteArray) (i : Int) : (Lib.indexByte (⟨#[95, 46, 47, 45]⟩ : ByteArray).data.toList (bt s i).toNat.toUInt8 < 0) ↔ ¬ (bt s i = 95 ∨ bt s i = 46 ∨ bt s i = 47 ∨ bt s i = 45) := by
  have hb := bt_range s i
  have h := idx_plain ⟨(bt s i).toNat, by omega⟩
  have e : decide (Lib.indexByte (⟨#[95, 46, 47, 45]⟩ : ByteArray).data.toList (bt s i).toNat.toUInt8 < 0) = decide (Lib.indexByte ([95, 46, 47, 45] : List UInt8) (UInt8.ofNat (bt s i).toNat) < 0) := rfl
  constructor
  · intro h1
    have h2 := decide_eq_true h1
    rw [e, h] at h2
    simp only [Bool.not_eq_true', Bool.or_eq_false_iff, decide_eq_false_iff_not] at h2
    omega
  · intro h1
    refine of_decide_eq_true ?_
    rw [e, h]
    simp only [Bool.not_eq_true', Bool.or_eq_false_iff, decide_eq_false_iff_not]
    omega
theorem plain_tail (s : ByteArray) : ((some (inB (s.size : Int) 1 60)).bind fun t => (if t = true then (if s.toList = ([110, 117, 108, 108] : List UInt8) then (some false) else (if s.toList = ([116, 114, 117, 101] : List UInt8) then (some false) else (some (s.toList != ([102, 97, 108, 115, 101] : List UInt8))))) else (some false))) = some (plainEnd s) := by
  rw [Option.bind_some]
  unfold plainEnd
  cases inB s.size 1 60
  · rfl
  · rw [if_pos rfl, Bool.true_and]
    by_cases h1 : s.toList = ([110, 117, 108, 108] : List UInt8)
    · rw [if_pos h1]; simp [h1]
    · rw [if_neg h1]
      by_cases h2 : s.toList = ([116, 114, 117, 101] : List UInt8)
      · rw [if_pos h2]; simp [h2]
      · rw [if_neg h2]
        by_cases h3 : s.toList = ([102, 97, 108, 115, 101] : List UInt8) <;> simp [h1, h2, h3]
theorem plain_end_spec (s : ByteArray) (k : Nat) : spec_PlainOk.l0 (k + 1) s (s.size : Int) = some (plainEnd s) := by
  simp only [spec_PlainOk.l0]
  rw [if_neg (by omega), l1In_eq]
  exact plain_tail s
theorem plain_end_impl (s : ByteArray) (k : Nat) : impl_PlainOk.l0 (k + 1) s (s.size : Int) (s.size : Int) = some (plainEnd s) := by
  simp only [impl_PlainOk.l0]
  rw [if_neg (by omega), from_eq]
  exact plain_tail s
theorem spec_plainOk (s : ByteArray) (hs : s.size ≤ 140737488351232) (k : Nat) (hk : s.size < k) : spec_PlainOk.f k s = some (plainOk s) := by
  unfold spec_PlainOk.f plainOk
  refine scan0 (g := fun k i => spec_PlainOk.l0 k s i) (fun k => plain_end_spec s k) (fun k i hi => ?_) k hk
  simp only [spec_PlainOk.l0, l5Letter_eq, Option.bind_some]
  rw [if_pos (by omega), if_pos (by omega), wsucc (by omega)]
  generalize spec_PlainOk.l0 k s ((i + 1 : Nat) : Int) = X
  by_cases hb : plainB s i = true
  · rw [if_pos hb]
    simp only [plainB, lowB, upB, digB, Bool.or_eq_true, Bool.and_eq_true, decide_eq_true_eq] at hb ⊢
    repeat' split
    all_goals first | rfl | (exfalso; omega)
  · rw [if_neg hb]
    simp only [plainB, lowB, upB, digB, Bool.or_eq_true, Bool.and_eq_true, decide_eq_true_eq] at hb ⊢
    repeat' split
    all_goals first | rfl | (exfalso; omega)
theorem impl_plainOk (s : ByteArray) (hs : s.size ≤ 140737488351232) (k : Nat) (hk : s.size < k) : impl_PlainOk.f k s = some (plainOk s) := by
  unfold impl_PlainOk.f plainOk
  refine scan0 (g := fun k i => impl_PlainOk.l0 k s (s.size : Int) i) (fun k => plain_end_impl s k) (fun k i hi => ?_) k hk
  have hx := idx_plain' s i
  simp only [impl_PlainOk.l0, isLetter_eq, isDigit_eq, strings_IndexByte.f, Option.bind_some]
  rw [if_pos (by omega), if_pos (by omega), if_pos (by omega), wsucc (by omega)]
  generalize impl_PlainOk.l0 k s (s.size : Int) ((i + 1 : Nat) : Int) = X
  simp only [hx]
  by_cases hb : plainB s i = true
  · rw [if_pos hb]
    simp only [plainB, lowB, upB, digB, Bool.or_eq_true, Bool.and_eq_true, decide_eq_true_eq] at hb ⊢
    repeat' split
    all_goals first | rfl | (exfalso; omega)
  · rw [if_neg hb]
    simp only [plainB, lowB, upB, digB, Bool.or_eq_true, Bool.and_eq_true, decide_eq_true_eq] at hb ⊢
    repeat' split
    all_goals first | rfl | (exfalso; omega)
end Go.Proofs.Ytdlhidjphaaklaa.M
