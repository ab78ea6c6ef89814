/- FnNumbers: drawn numbers are read from their digits; shares are not less than they are, nor more by one: for every code the law's call answers true. No condition. -/
import Derived.Test.YtjkanclhlnojhaaAid
import Derived.Test.YtjkanclhlnojhaaBytes
import Derived.Test.YtjkanclhlnojhaaDigits
import Derived.Test.YtjkanclhlnojhaaDraw
import Derived.Test.YtjkanclhlnojhaaNumber
import Derived.Test.YtjkanclhlnojhaaP_laws_FnNumbers
import Derived.Test.YtjkanclhlnojhaaP_laws_big
import Derived.Test.YtjkanclhlnojhaaP_spec_DrawDigits
import Derived.Test.YtjkanclhlnojhaaStFnNumbers
namespace Go.Proofs.Ytjkanclhlnojhaa.Pure
open Go.RowKit Go.Proofs.Ytjkanclhlnojhaa.P Go.Proofs.Ytjkanclhlnojhaa.M Go.Proofs.YtjkanclhlnojhaaW.PrintWords

theorem drawDigits_ok (l : List Int) (hl : l.length ≤ 1048576) (k : Nat) (hk : l.length < k) : ∃ n, spec_DrawDigits.f k l = some n ∧ -9223372036854775808 ≤ n ∧ n ≤ 9223372036854775807 := by
  obtain ⟨h, e⟩ := new_ok l hl k hk
  obtain ⟨x, i', h', e2, hx, _⟩ := pickInt_ok h (at0 hl) (xs := [0, 7, (-12), 100000, 9223372036854775807, (-9223372036854775808)]) (by simp) (by simp)
  unfold spec_DrawDigits.f
  rw [e, Option.bind_some, e2, Option.bind_some]
  refine ⟨x, rfl, ?_⟩
  simp only [List.mem_cons, List.not_mem_nil, or_false] at hx
  omega
theorem drawNumber_ok (l : List Int) (hl : l.length ≤ 1048576) (k : Nat) (hk : l.length < k) : ∃ s, spec_DrawNumber.f k l = some s := by
  obtain ⟨h, e⟩ := new_ok l hl k hk
  unfold spec_DrawNumber.f
  rw [e, Option.bind_some]
  generalize hxs : ([(⟨#[48]⟩ : ByteArray), (⟨#[45, 55]⟩ : ByteArray), (⟨#[49, 48, 48, 48, 48, 48, 48, 48, 48, 48, 48, 48, 48]⟩ : ByteArray), (⟨#[49, 48, 48, 48, 48, 48, 48, 48, 48, 48, 48, 48, 49]⟩ : ByteArray), (⟨#[48, 49]⟩ : ByteArray), (⟨#[]⟩ : ByteArray), (⟨#[45]⟩ : ByteArray), (⟨#[45, 48]⟩ : ByteArray), (⟨#[49, 50, 97]⟩ : ByteArray), (⟨#[57, 57, 57, 57, 57, 57, 57, 57, 57, 57, 57, 57, 57, 57]⟩ : ByteArray)] : List ByteArray) = xs
  have hlen : xs.length = 10 := by rw [← hxs]; rfl
  obtain ⟨x, i', h', e2, hx, _⟩ := pick_ok h (at0 hl) (xs := xs) (by omega) (by omega)
  rw [e2, Option.bind_some]
  exact ⟨x, rfl⟩
theorem drawCeil_ok (l : List Int) (hl : l.length ≤ 1048576) (k : Nat) (hk : l.length < k) :
    ∃ a b, spec_DrawCeilDiv.f k l = some (a, b) ∧ a ∈ ([0, 1, 7, 10, 1000000000000, 1000000000001, (-1)] : List Int) ∧ b ∈ ([1, 2, 3, 10, 1000000000000, 0, (-1)] : List Int) := by
  obtain ⟨h, e⟩ := new_ok l hl k hk
  obtain ⟨a, i1, h1, e1, ha, at1⟩ := pickInt_ok h (at0 hl) (xs := [0, 1, 7, 10, 1000000000000, 1000000000001, (-1)]) (by simp) (by simp)
  obtain ⟨b, i2, h2, e2, hb, _⟩ := pickInt_ok h1 at1 (xs := [1, 2, 3, 10, 1000000000000, 0, (-1)]) (by simp) (by simp)
  unfold spec_DrawCeilDiv.f
  rw [e, Option.bind_some, e1, Option.bind_some]
  simp only
  rw [e2, Option.bind_some]
  exact ⟨a, b, rfl, ha, hb⟩
theorem drawClamp_ok (l : List Int) (hl : l.length ≤ 1048576) (k : Nat) (hk : l.length < k) : ∃ n a b, spec_DrawClamp.f k l = some (n, a, b) := by
  obtain ⟨h, e⟩ := new_ok l hl k hk
  obtain ⟨n, i1, h1, e1, _, _, at1⟩ := below_ok h (at0 hl) (n := 9) (by omega) (by omega)
  obtain ⟨a, i2, h2, e2, _, _, at2⟩ := below_ok h1 at1 (n := 9) (by omega) (by omega)
  obtain ⟨b, i3, h3, e3, _, _, _⟩ := below_ok h2 at2 (n := 9) (by omega) (by omega)
  unfold spec_DrawClamp.f
  rw [e, Option.bind_some, e1, Option.bind_some]
  simp only
  rw [e2, Option.bind_some]
  simp only
  rw [e3, Option.bind_some]
  exact ⟨n, a, b, rfl⟩
theorem clamp_eq (n a b : Int) : ∃ c, impl_Clamp.f n a b = some c ∧ spec_Clamp.f n a b = some c ∧ (a ≤ b → a ≤ c ∧ c ≤ b) := by
  unfold spec_Clamp.f impl_Clamp.f spec_l1Min.f
  by_cases h : n < a
  · exact ⟨a, by simp [h], by simp [h], fun _ => by omega⟩
  · by_cases h1 : n < b
    · have h2 : ¬ n > b := by omega
      exact ⟨n, by simp [h, h2], by simp [h, h1], fun _ => by omega⟩
    · by_cases h2 : n > b
      · exact ⟨b, by simp [h, h2], by simp [h, h1], fun _ => by omega⟩
      · obtain rfl : n = b := by omega
        exact ⟨n, by simp [h], by simp [h], fun _ => by omega⟩
def ceilB (a b q : Int) : Option Bool := laws_FnNumbers.j1 1 a b q false
theorem ceilB_eq (k : Nat) (a b q : Int) : laws_FnNumbers.j1 (k + 1) a b q false = ceilB a b q := by
  unfold ceilB
  simp only [laws_FnNumbers.j1]
theorem ceil_all : ∀ a ∈ ([0, 1, 7, 10, 1000000000000, 1000000000001, (-1)] : List Int), ∀ b ∈ ([1, 2, 3, 10, 1000000000000, 0, (-1)] : List Int), ∃ q, impl_CeilDiv.f a b = some q ∧ spec_CeilDiv.f a b = some q ∧ ceilB a b q = some true := by
  have key : ∀ a ∈ ([0, 1, 7, 10, 1000000000000, 1000000000001, (-1)] : List Int), ∀ b ∈ ([1, 2, 3, 10, 1000000000000, 0, (-1)] : List Int), (impl_CeilDiv.f a b).isSome = true ∧ impl_CeilDiv.f a b = spec_CeilDiv.f a b ∧ ceilB a b ((impl_CeilDiv.f a b).getD 0) = some true := by decide +kernel
  intro a ha b hb
  obtain ⟨h1, h2, h3⟩ := key a ha b hb
  obtain ⟨q, hq⟩ := Option.isSome_iff_exists.1 h1
  rw [hq] at h3
  exact ⟨q, hq, by rw [← h2, hq], h3⟩
theorem FnNumbers : St.laws_FnNumbers.Pure := by
  intro l _ _
  have hK : ∃ k : Nat, 40000000000000000000 < k := ⟨_, Nat.lt_succ_self _⟩
  obtain ⟨k, hk⟩ := hK
  refine ⟨k, ?_⟩
  unfold laws_FnNumbers.f laws_big.f
  rw [Option.bind_some]
  by_cases hl : (l.length : Int) > 1048576
  · rw [decide_eq_true hl, if_pos rfl]
  · rw [decide_eq_false hl, if_neg (by simp)]
    obtain ⟨d, hd, hd0, hd1⟩ := drawDigits_ok l (by omega) k (by omega)
    obtain ⟨s, hs⟩ := drawNumber_ok l (by omega) k (by omega)
    obtain ⟨a, b, hab, ha, hb⟩ := drawCeil_ok l (by omega) k (by omega)
    obtain ⟨x, lo, hi, hx⟩ := drawClamp_ok l (by omega) k (by omega)
    obtain ⟨q, hq1, hq2, hq3⟩ := ceil_all a ha b hb
    obtain ⟨c, hc1, hc2, hc3⟩ := clamp_eq x lo hi
    have hB : BIG + 25 < k := by unfold BIG; omega
    rw [hd, Option.bind_some, hs, Option.bind_some, impl_number s k hB, Option.bind_some, spec_number s k hB, Option.bind_some, hab, Option.bind_some]
    simp only
    rw [hq1, Option.bind_some, hx, Option.bind_some]
    simp only
    rw [hc1, Option.bind_some, impl_digits d hd0 hd1 k (by omega), Option.bind_some, spec_digits d hd0 hd1 k (by omega), Option.bind_some, if_pos rfl]
    simp only [if_true, bne_self_eq_false, Bool.false_eq_true, if_false, hq2, hc2, Option.bind_some]
    have fin_ : laws_FnNumbers.j0 k a b q lo hi c false = some true := by
      obtain ⟨k, rfl⟩ : ∃ m, k = m + 2 := ⟨k - 2, by omega⟩
      simp only [laws_FnNumbers.j0, Bool.false_eq_true, if_false]
      by_cases h : lo ≤ hi
      · have := hc3 h
        rw [if_pos h, if_neg (by omega), decide_eq_false (by omega), ceilB_eq, hq3]
      · rw [if_neg h, ceilB_eq, hq3]
    rcases number_or s with e | ⟨h1, h2, h3, h4⟩
    · rw [e]
      simp only [Bool.false_eq_true, if_false]
      exact fin_
    · rw [if_pos h1, impl_digits _ (by omega) (by omega) k (by omega), Option.bind_some, h2]
      simp only [bne_self_eq_false]
      exact fin_
end Go.Proofs.Ytjkanclhlnojhaa.Pure
