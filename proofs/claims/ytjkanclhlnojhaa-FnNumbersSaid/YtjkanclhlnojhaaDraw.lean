/- The cursor of a draw: it always answers; what is drawn lies in its bounds. -/
import Derived.Test.YtjkanclhlnojhaaAid
import Derived.Test.YtjkanclhlnojhaaP_laws_big
import Derived.Test.YtjkanclhlnojhaaP_spec_l6DrawMetric
namespace Go.Proofs.Ytjkanclhlnojhaa.M
open Go.RowKit Go.Proofs.Ytjkanclhlnojhaa.P Go.Proofs.YtjkanclhlnojhaaW.PrintWords

theorem and255 (x : Int) : 0 ≤ Go.bits .and .i64 x 255 ∧ Go.bits .and .i64 x 255 ≤ 255 := by
  unfold Go.bits
  have h : (BitVec.ofInt 64 x &&& BitVec.ofInt 64 255).toNat ≤ 255 := by
    rw [BitVec.toNat_and]
    exact Nat.le_trans Nat.and_le_right (by decide)
  have h2 : IntKind.i64.wrap (((BitVec.ofInt 64 x &&& BitVec.ofInt 64 255).toNat : Nat) : Int) = ((BitVec.ofInt 64 x &&& BitVec.ofInt 64 255).toNat : Nat) := by
    rw [IntKind.wrap_i64]; omega
  show 0 ≤ IntKind.i64.wrap (((BitVec.ofInt 64 x &&& BitVec.ofInt 64 255).toNat : Nat) : Int) ∧ IntKind.i64.wrap (((BitVec.ofInt 64 x &&& BitVec.ofInt 64 255).toNat : Nat) : Int) ≤ 255
  rw [h2]
  omega
theorem new_ok (l : List Int) (hl : l.length ≤ 1048576) (k : Nat) (hk : l.length < k) : ∃ h, spec_l1New.f k l = some (l, 0, h) := by
  have key : ∀ (d i k : Nat) (h : Int), i + d = l.length → d < k → ∃ h', spec_l1New.l0 k l h (i : Int) = some (l, 0, h') := by
    intro d
    induction d with
    | zero =>
      intro i k h hi hk
      obtain ⟨k, rfl⟩ : ∃ m, k = m + 1 := ⟨k - 1, by omega⟩
      simp only [spec_l1New.l0]
      exact ⟨h, by rw [if_neg (by omega)]⟩
    | succ d ih =>
      intro i k h hi hk
      obtain ⟨k, rfl⟩ : ∃ m, k = m + 1 := ⟨k - 1, by omega⟩
      simp only [spec_l1New.l0]
      rw [if_pos (by omega)]
      by_cases h4 : (i : Int) < 4000
      · rw [if_pos h4, if_pos (by omega), wsucc (by omega)]
        exact ih (i + 1) k _ (by omega) (by omega)
      · rw [if_neg h4]
        exact ⟨h, rfl⟩
  unfold spec_l1New.f
  exact key l.length 0 k _ (by omega) hk
/-- A cursor's place. -/
def At (l : List Int) (i : Int) : Prop := l.length ≤ 1048576 ∧ 0 ≤ i ∧ i ≤ l.length
theorem byte_ok {l : List Int} {i : Int} (h : Int) (hi : At l i) : ∃ x i' h', spec_l1Byte.f l i h = some (x, i', h') ∧ 0 ≤ x ∧ x ≤ 255 ∧ At l i' := by
  obtain ⟨h0, h1, h2⟩ := hi
  unfold spec_l1Byte.f
  by_cases h3 : i < (l.length : Int)
  · rw [if_pos h3, if_pos h1]
    refine ⟨_, _, _, rfl, (and255 _).1, (and255 _).2, h0, ?_, ?_⟩ <;> rw [w64 (by omega) (by omega)] <;> omega
  · rw [if_neg h3]
    exact ⟨_, _, _, rfl, (and255 _).1, (and255 _).2, h0, h1, h2⟩
theorem below_ok {l : List Int} {i : Int} (h : Int) (hi : At l i) {n : Int} (h0 : 0 < n) (h1 : n ≤ 256) : ∃ x i' h', spec_l1Below.f l i h n = some (x, i', h') ∧ 0 ≤ x ∧ x < n ∧ At l i' := by
  obtain ⟨x, i', h', e, hx0, hx1, ha⟩ := byte_ok h hi
  unfold spec_l1Below.f
  rw [if_neg (by omega), if_pos h1, e, Option.bind_some, if_neg (by omega), Int.tmod_eq_emod_of_nonneg hx0]
  exact ⟨_, _, _, rfl, Int.emod_nonneg _ (by omega), Int.emod_lt_of_pos _ h0, ha⟩
/-- Whatever is asked for, it answers; below 0 and 0 is 0. -/
theorem once_ok {l : List Int} {i : Int} (h : Int) (hi : At l i) {n : Int} (h0 : 0 < n) (h1 : n ≤ 256) : ∃ b i' h', spec_l1Once.f l i h n = some (b, i', h') ∧ At l i' := by
  obtain ⟨x, i', h', e, _, _, ha⟩ := below_ok h hi h0 h1
  unfold spec_l1Once.f
  rw [e, Option.bind_some]
  exact ⟨_, _, _, rfl, ha⟩
theorem pick_ok {l : List Int} {i : Int} (h : Int) (hi : At l i) {xs : List ByteArray} (h0 : 0 < xs.length) (h1 : xs.length ≤ 256) : ∃ x i' h', spec_l1Pick.f l i h xs = some (x, i', h') ∧ x ∈ xs ∧ At l i' := by
  obtain ⟨x, i', h', e, hx0, hx1, ha⟩ := below_ok h hi (n := (xs.length : Int)) (by omega) (by omega)
  unfold spec_l1Pick.f
  rw [e, Option.bind_some, if_pos hx0, if_pos hx1]
  refine ⟨_, _, _, rfl, ?_, ha⟩
  unfold rdOf
  have hlt : x.toNat < xs.length := by omega
  rw [List.getD_eq_getElem?_getD, List.getElem?_eq_getElem hlt]
  exact List.getElem_mem hlt
theorem pickInt_ok {l : List Int} {i : Int} (h : Int) (hi : At l i) {xs : List Int} (h0 : 0 < xs.length) (h1 : xs.length ≤ 256) : ∃ x i' h', spec_l1PickInt.f l i h xs = some (x, i', h') ∧ x ∈ xs ∧ At l i' := by
  obtain ⟨x, i', h', e, hx0, hx1, ha⟩ := below_ok h hi (n := (xs.length : Int)) (by omega) (by omega)
  unfold spec_l1PickInt.f
  rw [e, Option.bind_some, if_pos hx0, if_pos hx1]
  refine ⟨_, _, _, rfl, ?_, ha⟩
  unfold rd
  have hlt : x.toNat < xs.length := by omega
  rw [List.getD_eq_getElem?_getD, List.getElem?_eq_getElem hlt]
  exact List.getElem_mem hlt
theorem pick1 {l : List Int} {i : Int} (h : Int) (hi : At l i) {xs : List ByteArray} (p : ByteArray → Prop) (h0 : 0 < xs.length) (h1 : xs.length ≤ 256) (hp : ∀ s ∈ xs, p s) : ∃ s, ((spec_l1Pick.f l i h xs).bind fun b => some b.1) = some s ∧ p s := by
  obtain ⟨x, i', h', e, hx, _⟩ := pick_ok h hi h0 h1
  exact ⟨x, by rw [e]; rfl, hp x hx⟩
theorem at0 {l : List Int} (hl : l.length ≤ 1048576) : At l 0 := ⟨hl, by omega, by omega⟩
end Go.Proofs.Ytjkanclhlnojhaa.M
