/- Amounts and spans as texts: program and reference tell the same. -/
import Derived.Test.YtnbnpgjgibcmpaaAid
import Derived.Test.YtnbnpgjgibcmpaaDigits
import Derived.Test.YtnbnpgjgibcmpaaIn
import Derived.Test.YtnbnpgjgibcmpaaP_laws_szMetric
import Derived.Test.YtnbnpgjgibcmpaaP_laws_toMetric
import Derived.Test.YtnbnpgjgibcmpaaP_laws_toPace
import Derived.Test.YtnbnpgjgibcmpaaP_spec_SpanText
namespace Go.Proofs.Ytnbnpgjgibcmpaa.M
open Go.RowKit Go.Proofs.Ytnbnpgjgibcmpaa.P Go.Proofs.YtnbnpgjgibcmpaaW.PrintWords

def amountText (n : Int) : ByteArray :=
  if inB n 0 1000000000000 = true then (if n ≠ 0 ∧ n % 1000000 = 0 then digits (n / 1000000) ++ ⟨#[107]⟩ else if n % 1000 = 0 then digits (n / 1000) else digits n ++ ⟨#[109]⟩) else ⟨#[]⟩
def spanText (n : Int) : ByteArray :=
  if inB n 0 1000000 = true then (if n ≠ 0 ∧ n % 3600 = 0 then digits (n / 3600) ++ ⟨#[104]⟩ else if n ≠ 0 ∧ n % 60 = 0 then digits (n / 60) ++ ⟨#[109]⟩ else digits n ++ ⟨#[115]⟩) else ⟨#[]⟩
theorem digits_size {n : Int} (h0 : -9223372036854775808 ≤ n) (h1 : n ≤ 9223372036854775807) : (digits n).size ≤ 20 := by
  unfold digits
  rw [ba_size, List.length_append]
  have := natDigs_len20 (n := n.natAbs) (by omega)
  split <;> simp <;> omega
theorem in_rng {n a b : Int} (h : inB n a b = true) : a ≤ n ∧ n ≤ b := by
  unfold inB at h
  simp only [Bool.and_eq_true, decide_eq_true_eq] at h
  exact h
theorem tdiv_n {n : Int} (h : 0 ≤ n) (c : Int) : Int.tdiv n c = n / c := Int.tdiv_eq_ediv_of_nonneg h
theorem tmod_n {n : Int} (h : 0 ≤ n) (c : Int) : Int.tmod n c = n % c := Int.tmod_eq_emod_of_nonneg h
theorem ite_size {a : ByteArray} {b : ByteArray} (h : a.size ≤ 20) : (if a.size + 1 ≤ 9223372036854775807 then some (a ++ b) else none) = some (a ++ b) := if_pos (by omega)
theorem spec_amountText (n : Int) (k : Nat) (hk : BIG < k) : spec_AmountText.f k n = some (amountText n) := by
  unfold BIG at hk
  obtain ⟨k, rfl⟩ : ∃ m, k = m + 1 := ⟨k - 1, by omega⟩
  unfold spec_AmountText.f amountText
  rw [l1In_eq, Option.bind_some]
  by_cases h : inB n 0 1000000000000 = true
  · obtain ⟨h0, h1⟩ := in_rng h
    rw [if_pos h, if_pos h]
    simp only [spec_AmountText.j0, tdiv_n h0, tmod_n h0]
    rw [w64 (i := n / 1000000) (by omega) (by omega), w64 (i := n / 1000) (by omega) (by omega), spec_digits _ (by omega) (by omega) k (by omega), spec_digits _ (by omega) (by omega) k (by omega), spec_digits _ (by omega) (by omega) k (by omega)]
    simp only [Option.bind_some]
    rw [ite_size (digits_size (by omega) (by omega)), ite_size (digits_size (by omega) (by omega))]
    by_cases hz : n = 0
    · subst hz; rfl
    · have : n > 0 := by omega
      rw [if_pos this]
      by_cases hm : n % 1000000 = 0
      · simp [hm, hz]
      · by_cases hm2 : n % 1000 = 0 <;> simp [hm, hz, hm2]
  · rw [if_neg h, if_neg h]
theorem impl_amountText (n : Int) (k : Nat) (hk : BIG < k) : impl_AmountText.f k n = some (amountText n) := by
  unfold BIG at hk
  obtain ⟨k, rfl⟩ : ∃ m, k = m + 1 := ⟨k - 1, by omega⟩
  unfold impl_AmountText.f amountText impl_isAmount.f
  rw [from_eq, Option.bind_some, Option.bind_some]
  by_cases h : inB n 0 1000000000000 = true
  · obtain ⟨h0, h1⟩ := in_rng h
    rw [if_pos h, if_pos h]
    simp only [impl_AmountText.j0, tdiv_n h0, tmod_n h0]
    rw [w64 (i := n / 1000000) (by omega) (by omega), w64 (i := n / 1000) (by omega) (by omega), impl_digits _ (by omega) (by omega) k (by omega), impl_digits _ (by omega) (by omega) k (by omega), impl_digits _ (by omega) (by omega) k (by omega)]
    simp only [Option.bind_some]
    rw [ite_size (digits_size (by omega) (by omega)), ite_size (digits_size (by omega) (by omega))]
    by_cases hz : n = 0
    · subst hz; rfl
    · rw [if_neg hz]
      by_cases hm : n % 1000000 = 0
      · simp [hm, hz]
      · by_cases hm2 : n % 1000 = 0 <;> simp [hm, hz, hm2]
  · rw [if_neg h, if_neg h]
theorem spec_spanText (n : Int) (k : Nat) (hk : BIG < k) : spec_SpanText.f k n = some (spanText n) := by
  unfold BIG at hk
  obtain ⟨k, rfl⟩ : ∃ m, k = m + 2 := ⟨k - 2, by omega⟩
  unfold spec_SpanText.f spanText
  rw [l1In_eq, Option.bind_some]
  by_cases h : inB n 0 1000000 = true
  · obtain ⟨h0, h1⟩ := in_rng h
    rw [if_pos h, if_pos h]
    simp only [spec_SpanText.j0, spec_SpanText.j1, tdiv_n h0, tmod_n h0]
    rw [w64 (i := n / 3600) (by omega) (by omega), w64 (i := n / 60) (by omega) (by omega), spec_digits _ (by omega) (by omega) k (by omega), spec_digits _ (by omega) (by omega) (k + 1) (by omega), spec_digits _ (by omega) (by omega) k (by omega)]
    simp only [Option.bind_some]
    rw [ite_size (digits_size (by omega) (by omega)), ite_size (digits_size (by omega) (by omega)), ite_size (digits_size (by omega) (by omega))]
    by_cases hz : n = 0
    · subst hz; rfl
    · have : n > 0 := by omega
      rw [if_pos this, if_pos this]
      by_cases hm : n % 3600 = 0
      · simp [hm, hz]
      · by_cases hm2 : n % 60 = 0 <;> simp [hm, hz, hm2]
  · rw [if_neg h, if_neg h]
theorem impl_spanText (n : Int) (k : Nat) (hk : BIG < k) : impl_SpanText.f k n = some (spanText n) := by
  unfold BIG at hk
  obtain ⟨k, rfl⟩ : ∃ m, k = m + 2 := ⟨k - 2, by omega⟩
  unfold impl_SpanText.f spanText
  rw [from_eq, Option.bind_some]
  by_cases h : inB n 0 1000000 = true
  · obtain ⟨h0, h1⟩ := in_rng h
    rw [if_pos h, if_pos h]
    simp only [impl_SpanText.j0, impl_SpanText.j1, tdiv_n h0, tmod_n h0]
    rw [w64 (i := n / 3600) (by omega) (by omega), w64 (i := n / 60) (by omega) (by omega), impl_digits _ (by omega) (by omega) k (by omega), impl_digits _ (by omega) (by omega) (k + 1) (by omega), impl_digits _ (by omega) (by omega) k (by omega)]
    simp only [Option.bind_some]
    rw [ite_size (digits_size (by omega) (by omega)), ite_size (digits_size (by omega) (by omega)), ite_size (digits_size (by omega) (by omega))]
    by_cases hz : n = 0
    · subst hz; rfl
    · rw [if_neg hz]
      by_cases hm : n % 3600 = 0
      · simp [hm, hz]
      · by_cases hm2 : n % 60 = 0 <;> simp [hm, hz, hm2]
  · rw [if_neg h, if_neg h]
/-! Reading -/
end Go.Proofs.Ytnbnpgjgibcmpaa.M
