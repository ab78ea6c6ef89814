/- Digits: program and reference write the same bytes: '-' ahead of a number below 0, and the decimal digits of its absolute value. -/
import Derived.Test.YtdlhidjphaaklaaAid
import Derived.Test.YtdlhidjphaaklaaP_impl_PaceNew
import Derived.Test.YtdlhidjphaaklaaP_spec_Get
namespace Go.Proofs.Ytdlhidjphaaklaa.M
open Go.RowKit Go.Proofs.Ytdlhidjphaaklaa.P Go.Proofs.YtdlhidjphaaklaaW.PrintWords

theorem str_digit (d : Nat) (h : d < 10) : strOfNums [((48 + d : Nat) : Int)] = ⟨#[UInt8.ofNat (48 + d)]⟩ := by
  have : ∀ d : Fin 10, strOfNums [((48 + d.val : Nat) : Int)] = ⟨#[UInt8.ofNat (48 + d.val)]⟩ := by decide +kernel
  exact this ⟨d, h⟩
theorem enc_digit (d : Nat) (h : d < 10) : Utf8.encode ((48 + d : Nat) : Int) = ⟨#[UInt8.ofNat (48 + d)]⟩ := by
  have : ∀ d : Fin 10, Utf8.encode ((48 + d.val : Nat) : Int) = ⟨#[UInt8.ofNat (48 + d.val)]⟩ := by decide +kernel
  exact this ⟨d, h⟩
theorem ba_append (a b : List UInt8) : (⟨a.toArray⟩ : ByteArray) ++ (⟨b.toArray⟩ : ByteArray) = ⟨(a ++ b).toArray⟩ := by
  apply ByteArray.ext
  simp
theorem ba_size (a : List UInt8) : (⟨a.toArray⟩ : ByteArray).size = a.length := by simp [ByteArray.size]
def sgn (b : Bool) : List UInt8 := if b = true then [45] else []
def body (n : Nat) : List UInt8 := if n = 0 then [] else natDigs n
theorem tdiv_abs (x : Int) : (Int.tdiv x 10).natAbs = x.natAbs / 10 := by
  rw [Int.natAbs_tdiv]; rfl
theorem tmod_abs (x : Int) : (Int.tmod x 10).natAbs = x.natAbs % 10 := by
  rw [Int.natAbs_tmod]; rfl
theorem tmod_rng (x : Int) : -10 < Int.tmod x 10 ∧ Int.tmod x 10 < 10 := by
  have h1 := tmod_abs x
  omega
theorem tdiv_rng {x : Int} (h0 : -9223372036854775808 ≤ x) (h1 : x ≤ 9223372036854775807) : -922337203685477580 ≤ Int.tdiv x 10 ∧ Int.tdiv x 10 ≤ 922337203685477580 := by
  have h := tdiv_abs x
  omega
theorem body_step {n : Nat} (h : n ≠ 0) : body n = body (n / 10) ++ [UInt8.ofNat (48 + n % 10)] := by
  unfold body
  rw [if_neg h]
  by_cases h9 : n < 10
  · have : n / 10 = 0 := by omega
    rw [natDigs_lt h9, if_pos this, List.nil_append, Nat.mod_eq_of_lt h9]
  · have : ¬ n / 10 = 0 := by omega
    rw [natDigs_ge h9, if_neg this]
theorem body_len {n : Nat} (h : n ≤ 9223372036854775808) : (body n).length ≤ 19 := by
  unfold body
  split
  · simp
  · exact natDigs_len20 h
theorem spec_loop (b : Bool) : ∀ (n : Nat) (x : Int) (out : List UInt8) (k : Nat), x.natAbs = n → -9223372036854775808 ≤ x → x ≤ 9223372036854775807 → n < k → out.length + (body n).length < 9223372036854775700 →
    spec_Digits.l0 k x b ⟨out.toArray⟩ = some ⟨(sgn b ++ body n ++ out).toArray⟩ := by
  intro n
  induction n using Nat.strongRecOn with
  | _ n ih =>
    intro x out k hx h0 h1 hk hl
    obtain ⟨k, rfl⟩ : ∃ m, k = m + 1 := ⟨k - 1, by omega⟩
    simp only [spec_Digits.l0]
    by_cases hz : x = 0
    · subst hz
      have hn : n = 0 := by simpa using hx.symm
      subst hn
      rw [if_pos rfl]
      cases b
      · simp [sgn, body]
      · rw [if_pos rfl, if_pos (by rw [ba_size]; omega)]
        rw [show (⟨#[45]⟩ : ByteArray) = ⟨[45].toArray⟩ from rfl, ba_append]
        simp [sgn, body]
    · have hn : n ≠ 0 := by omega
      have hm := tmod_rng x
      have hma := tmod_abs x
      have hd := tdiv_rng h0 h1
      have hda := tdiv_abs x
      rw [if_neg hz]
      have key : ∀ D : Int, D = ((48 + n % 10 : Nat) : Int) → ((some ([D % 256] : List Int)).bind fun y => if (strOfNums y).size + (⟨out.toArray⟩ : ByteArray).size ≤ 9223372036854775807 then spec_Digits.l0 k (wrap64 (Int.tdiv x 10)) b (strOfNums y ++ ⟨out.toArray⟩) else none) = some ⟨(sgn b ++ body n ++ out).toArray⟩ := by
        intro D hD
        subst hD
        have e : (((48 + n % 10 : Nat) : Int) % 256) = ((48 + n % 10 : Nat) : Int) := by omega
        rw [Option.bind_some, e, str_digit _ (by omega), show (⟨#[UInt8.ofNat (48 + n % 10)]⟩ : ByteArray) = ⟨[UInt8.ofNat (48 + n % 10)].toArray⟩ from rfl, ba_size, ba_size, if_pos (by simp only [List.length_singleton]; omega), ba_append, w64 (by omega) (by omega)]
        rw [ih (n / 10) (by omega) (Int.tdiv x 10) _ k (by rw [hda, hx]) (by omega) (by omega) (by omega) (by rw [body_step hn] at hl; simp only [List.length_append, List.length_cons, List.length_nil] at hl ⊢; omega)]
        rw [body_step hn]
        simp
      by_cases hneg : Int.tmod x 10 < 0
      · rw [if_pos hneg]
        exact key _ (by rw [w64 (i := -(Int.tmod x 10)) (by omega) (by omega), w64 (by omega) (by omega)]; omega)
      · rw [if_neg hneg]
        exact key _ (by rw [w64 (by omega) (by omega)]; omega)
theorem spec_digits (n : Int) (h0 : -9223372036854775808 ≤ n) (h1 : n ≤ 9223372036854775807) (k : Nat) (hk : n.natAbs < k) : spec_Digits.f k n = some (digits n) := by
  unfold spec_Digits.f
  by_cases hz : n = 0
  · rw [if_pos hz]
    subst hz
    unfold digits
    rw [show (0 : Int).natAbs = 0 from rfl, natDigs_lt (by omega)]
    rfl
  · rw [if_neg hz, show (⟨#[]⟩ : ByteArray) = ⟨([] : List UInt8).toArray⟩ from rfl, spec_loop _ n.natAbs n [] k rfl h0 h1 hk (by have := body_len (n := n.natAbs) (by omega); simp only [List.length_nil]; omega)]
    unfold digits sgn body
    have : ¬ n.natAbs = 0 := by omega
    by_cases h : n < 0 <;> simp [h, this]
theorem impl_nat : ∀ (n : Nat) (k : Nat), n ≤ 9223372036854775807 → 2 * n + 1 < k → impl_Digits.f k (n : Int) = some ⟨(natDigs n).toArray⟩ := by
  intro n
  induction n using Nat.strongRecOn with
  | _ n ih =>
    intro k hn hk
    obtain ⟨k, rfl⟩ : ∃ m, k = m + 2 := ⟨k - 2, by omega⟩
    simp only [impl_Digits.f]
    rw [if_neg (by omega)]
    simp only [impl_Digits.j0]
    rw [if_neg (by simp), if_neg (by omega)]
    by_cases h : n < 10
    · rw [if_pos (by omega), natDigs_lt h]
      have e : wrap32 (wrap64 (48 + (n : Int))) = ((48 + n : Nat) : Int) := by rw [w64 (by omega) (by omega), w32 (by omega) (by omega)]; omega
      rw [e, enc_digit n h]
    · rw [if_neg (by omega)]
      have hd : wrap64 (Int.tdiv (n : Int) 10) = ((n / 10 : Nat) : Int) := by
        have := tdiv_abs (n : Int)
        rw [Int.tdiv_eq_ediv_of_nonneg (by omega), w64 (by omega) (by omega)]
        omega
      have hm : Int.tmod (n : Int) 10 = ((n % 10 : Nat) : Int) := by rw [Int.tmod_eq_emod_of_nonneg (by omega)]; omega
      have e : wrap32 (wrap64 (48 + Int.tmod (n : Int) 10)) = ((48 + n % 10 : Nat) : Int) := by rw [hm, w64 (by omega) (by omega), w32 (by omega) (by omega)]; omega
      rw [hd, ih (n / 10) (by omega) k (by omega) (by omega), Option.bind_some, e, enc_digit _ (by omega)]
      have hl := natDigs_len20 (n := n / 10) (by omega)
      rw [show (⟨#[UInt8.ofNat (48 + n % 10)]⟩ : ByteArray) = ⟨[UInt8.ofNat (48 + n % 10)].toArray⟩ from rfl, ba_size, ba_size, if_pos (by simp; omega), ba_append, ← natDigs_ge h]
theorem impl_neg : ∀ (n : Nat) (k : Nat), 0 < n → n ≤ 9223372036854775808 → 2 * n + 25 < k → impl_Digits.f k (-(n : Int)) = some ⟨(45 :: natDigs n).toArray⟩ := by
  intro n
  induction n using Nat.strongRecOn with
  | _ n ih =>
    intro k h0 hn hk
    obtain ⟨k, rfl⟩ : ∃ m, k = m + 2 := ⟨k - 2, by omega⟩
    simp only [impl_Digits.f]
    rw [if_pos (by omega)]
    simp only [impl_Digits.j0]
    have hl := natDigs_len20 hn
    by_cases h : n < 10
    · rw [if_pos (by simp; omega), w64 (by omega) (by omega), Int.neg_neg, impl_nat n k (by omega) (by omega), Option.bind_some, ba_size, if_pos (by omega), show (⟨#[45]⟩ : ByteArray) = ⟨[45].toArray⟩ from rfl, ba_append]
      rfl
    · rw [if_neg (by simp; omega), if_pos (by omega)]
      have hda := tdiv_abs (-(n : Int))
      have hma := tmod_abs (-(n : Int))
      have hd : wrap64 (Int.tdiv (-(n : Int)) 10) = -((n / 10 : Nat) : Int) := by
        rw [Int.neg_tdiv, Int.tdiv_eq_ediv_of_nonneg (by omega), w64 (by omega) (by omega)]
        omega
      have hm : wrap64 (-(Int.tmod (-(n : Int)) 10)) = ((n % 10 : Nat) : Int) := by
        rw [Int.neg_tmod, Int.neg_neg, Int.tmod_eq_emod_of_nonneg (by omega), w64 (by omega) (by omega)]
        omega
      rw [hd, ih (n / 10) (by omega) k (by omega) (by omega) (by omega), Option.bind_some, hm, impl_nat (n % 10) k (by omega) (by omega), Option.bind_some, ba_size, ba_size]
      have hl2 := natDigs_len20 (n := n / 10) (by omega)
      have hl3 := natDigs_len20 (n := n % 10) (by omega)
      rw [if_pos (by simp; omega), ba_append, natDigs_ge h, natDigs_lt (n := n % 10) (by omega)]
      simp
theorem impl_digits (n : Int) (h0 : -9223372036854775808 ≤ n) (h1 : n ≤ 9223372036854775807) (k : Nat) (hk : 2 * n.natAbs + 25 < k) : impl_Digits.f k n = some (digits n) := by
  unfold digits
  by_cases h : n < 0
  · have e : n = -((n.natAbs : Nat) : Int) := by omega
    rw [if_pos h]
    conv => lhs; rw [e]
    exact impl_neg n.natAbs k (by omega) (by omega) hk
  · have e : n = ((n.natAbs : Nat) : Int) := by omega
    rw [if_neg h]
    conv => lhs; rw [e]
    exact impl_nat n.natAbs k (by omega) (by omega)
/-- Rounds that are enough. -/
def BIG : Nat := 30000000000000
end Go.Proofs.Ytdlhidjphaaklaa.M
