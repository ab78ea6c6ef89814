/- FnAmounts: drawn amounts and spans are read from their texts as they were; what is read, told, is read as that: for every code the law's call answers true. No condition. -/
import Derived.Test.YtjkanclhlnojhaaAid
import Derived.Test.YtjkanclhlnojhaaAmount
import Derived.Test.YtjkanclhlnojhaaBytes
import Derived.Test.YtjkanclhlnojhaaDigits
import Derived.Test.YtjkanclhlnojhaaDraw
import Derived.Test.YtjkanclhlnojhaaNumber
import Derived.Test.YtjkanclhlnojhaaP_laws_FnAmounts
import Derived.Test.YtjkanclhlnojhaaP_laws_big
import Derived.Test.YtjkanclhlnojhaaP_spec_DrawAmountText
import Derived.Test.YtjkanclhlnojhaaRound
import Derived.Test.YtjkanclhlnojhaaStFnAmounts
namespace Go.Proofs.Ytjkanclhlnojhaa.Pure
open Go.RowKit Go.Proofs.Ytjkanclhlnojhaa.P Go.Proofs.Ytjkanclhlnojhaa.M Go.Proofs.YtjkanclhlnojhaaW.PrintWords

theorem drawAmountText_ok (l : List Int) (hl : l.length ≤ 1048576) (k : Nat) (hk : l.length < k) : ∃ n, spec_DrawAmountText.f k l = some n := by
  obtain ⟨h, e⟩ := new_ok l hl k hk
  unfold spec_DrawAmountText.f
  rw [e, Option.bind_some]
  simp only
  obtain ⟨x, i', h', e2, hx, _⟩ := pickInt_ok h (at0 hl) (xs := [0, 1, 500, 1000, 1500, 1000000, 1000001, 1000000000000, 1000000000001, (-1)]) (by simp) (by simp)
  rw [e2, Option.bind_some]
  exact ⟨x, rfl⟩
theorem drawSpanText_ok (l : List Int) (hl : l.length ≤ 1048576) (k : Nat) (hk : l.length < k) : ∃ n, spec_DrawSpanText.f k l = some n := by
  obtain ⟨h, e⟩ := new_ok l hl k hk
  unfold spec_DrawSpanText.f
  rw [e, Option.bind_some]
  simp only
  obtain ⟨x, i', h', e2, hx, _⟩ := pickInt_ok h (at0 hl) (xs := [0, 1, 60, 90, 3600, 7200, 1000000, 1000001, (-1)]) (by simp) (by simp)
  rw [e2, Option.bind_some]
  exact ⟨x, rfl⟩
theorem drawAmountOf_ok (l : List Int) (hl : l.length ≤ 1048576) (k : Nat) (hk : l.length < k) : ∃ s, spec_DrawAmountOf.f k l = some s ∧ s.size ≤ 100 := by
  obtain ⟨h, e⟩ := new_ok l hl k hk
  unfold spec_DrawAmountOf.f
  rw [e, Option.bind_some]
  simp only
  exact pick1 h (at0 hl) (fun s => s.size ≤ 100) (by decide) (by decide) (by decide +kernel)
theorem drawSpanOf_ok (l : List Int) (hl : l.length ≤ 1048576) (k : Nat) (hk : l.length < k) : ∃ s, spec_DrawSpanOf.f k l = some s ∧ s.size ≤ 100 := by
  obtain ⟨h, e⟩ := new_ok l hl k hk
  unfold spec_DrawSpanOf.f
  rw [e, Option.bind_some]
  simp only
  exact pick1 h (at0 hl) (fun s => s.size ≤ 100) (by decide) (by decide) (by decide +kernel)
theorem FnAmounts : St.laws_FnAmounts.Pure := by
  intro l _ _
  have hK : ∃ k : Nat, 40000000000000000000 < k := ⟨_, Nat.lt_succ_self _⟩
  obtain ⟨k, hk⟩ := hK
  refine ⟨k, ?_⟩
  unfold laws_FnAmounts.f laws_big.f
  rw [Option.bind_some]
  by_cases hl : (l.length : Int) > 1048576
  · rw [decide_eq_true hl, if_pos rfl]
  · rw [decide_eq_false hl, if_neg (by simp)]
    obtain ⟨n, hn⟩ := drawAmountText_ok l (by omega) k (by omega)
    obtain ⟨s, hs, hsz⟩ := drawAmountOf_ok l (by omega) k (by omega)
    obtain ⟨m, hm⟩ := drawSpanText_ok l (by omega) k (by omega)
    obtain ⟨t, ht, htz⟩ := drawSpanOf_ok l (by omega) k (by omega)
    have hB : BIG + 40 < k := by unfold BIG; omega
    have hB0 : BIG ≤ 40000000000000 := by unfold BIG; omega
    rw [hn, Option.bind_some, hs, Option.bind_some, hm, Option.bind_some, ht, Option.bind_some, impl_amountOf s (by omega) k (by omega), Option.bind_some, spec_amountOf s (by omega) k (by omega) (by omega), Option.bind_some,
      impl_spanOf t (by omega) k (by omega), Option.bind_some, spec_spanOf t (by omega) k (by omega) (by omega), Option.bind_some, impl_amountText n k (by omega), Option.bind_some, spec_amountText n k (by omega), Option.bind_some, if_pos rfl,
      impl_spanText m k (by omega), Option.bind_some, spec_spanText m k (by omega), Option.bind_some, if_pos rfl, if_pos rfl]
    simp only [if_true, bne_self_eq_false, Bool.false_eq_true, if_false]
    obtain ⟨k, rfl⟩ : ∃ j, k = j + 6 := ⟨k - 6, by omega⟩
    have s4 : ∀ k, BIG + 35 < k → laws_FnAmounts.j4 (k + 1) (amountOf s).1 (amountOf s).2 (spanOf t).1 (spanOf t).2 = some true := by
      intro k hk
      simp only [laws_FnAmounts.j4]
      rcases amountOf_or s with e | ⟨h1, h2, h3⟩
      · rw [e]
        simp only [Bool.false_eq_true, if_false, if_true]
        rcases spanOf_or t with e2 | ⟨h4, _, _⟩
        · rw [e2]; simp
        · rw [if_pos h4]
      · have hz := amountText_size (amountOf s).1
        rw [if_pos h1, impl_amountText _ k (by omega), Option.bind_some, impl_amountOf _ (by omega) k (by omega), Option.bind_some, amount_round _ h2 h3]
        simp
    have s3 : ∀ k, BIG + 36 < k → ∀ b, (b = true → 0 ≤ m ∧ m ≤ 1000000) → laws_FnAmounts.j3 (k + 1) m (amountOf s).1 (amountOf s).2 (spanOf t).1 (spanOf t).2 b = some true := by
      intro k hk b hb
      obtain ⟨k, rfl⟩ : ∃ j, k = j + 1 := ⟨k - 1, by omega⟩
      simp only [laws_FnAmounts.j3]
      cases b with
      | false => rw [if_neg (by simp)]; exact s4 k (by omega)
      | true =>
        have hz := spanText_size m
        rw [if_pos rfl, impl_spanText _ (k + 1) (by omega), Option.bind_some, impl_spanOf _ (by omega) (k + 1) (by omega), Option.bind_some, span_round m (hb rfl).1 (hb rfl).2]
        simp only [if_true]
        exact s4 k (by omega)
    have s2 : ∀ k, BIG + 37 < k → laws_FnAmounts.j2 (k + 1) m (amountOf s).1 (amountOf s).2 (spanOf t).1 (spanOf t).2 = some true := by
      intro k hk
      obtain ⟨k, rfl⟩ : ∃ j, k = j + 1 := ⟨k - 1, by omega⟩
      simp only [laws_FnAmounts.j2]
      by_cases h : m ≥ 0
      · rw [if_pos h]; exact s3 k (by omega) _ (fun z => ⟨h, of_decide_eq_true z⟩)
      · rw [if_neg h]; exact s3 k (by omega) _ (fun z => by cases z)
    have s1 : ∀ k, BIG + 38 < k → ∀ b, (b = true → 0 ≤ n ∧ n ≤ 1000000000000) → laws_FnAmounts.j1 (k + 1) n m (amountOf s).1 (amountOf s).2 (spanOf t).1 (spanOf t).2 b = some true := by
      intro k hk b hb
      obtain ⟨k, rfl⟩ : ∃ j, k = j + 1 := ⟨k - 1, by omega⟩
      simp only [laws_FnAmounts.j1]
      cases b with
      | false => rw [if_neg (by simp)]; exact s2 k (by omega)
      | true =>
        have hz := amountText_size n
        rw [if_pos rfl, impl_amountText _ (k + 1) (by omega), Option.bind_some, impl_amountOf _ (by omega) (k + 1) (by omega), Option.bind_some, amount_round n (hb rfl).1 (hb rfl).2]
        simp only [if_true]
        exact s2 k (by omega)
    simp only [laws_FnAmounts.j0, Bool.false_eq_true, if_false]
    by_cases h : n ≥ 0
    · rw [if_pos h]; exact s1 (k + 4) (by omega) _ (fun z => ⟨h, of_decide_eq_true z⟩)
    · rw [if_neg h]; exact s1 (k + 4) (by omega) _ (fun z => by cases z)
end Go.Proofs.Ytjkanclhlnojhaa.Pure
