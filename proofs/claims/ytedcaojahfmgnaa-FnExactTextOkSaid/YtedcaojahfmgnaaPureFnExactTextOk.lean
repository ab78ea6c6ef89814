/- FnExactTextOk: the program's TextOk returns what the reference's returns, for all strings. No condition. -/
import Derived.Test.YtedcaojahfmgnaaPFnExactTextOkx1
namespace Go.Proofs.Ytedcaojahfmgnaa.Pure
open Go.RowKit Go.Proofs.Ytedcaojahfmgnaa.PFnExactTextOk Go.Proofs.YtedcaojahfmgnaaW.PrintWords Go.Proofs.YtedcaojahfmgnaaW.PrintLast

theorem w64 {i : Int} (h0 : -9223372036854775808 ≤ i) (h1 : i ≤ 9223372036854775807) : wrap64 i = i := by unfold wrap64; omega
theorem text_loops (s : ByteArray) (hs : s.size ≤ 140737488351232) (d : Nat) : ∀ (k : Nat) (i : Int), 0 ≤ i → i ≤ s.size → (s.size : Int) - i = d → d < k →
    ∃ r, spec_TextOk.l0 k s i = some r ∧ impl_TextOk.l0 k s (s.size : Int) i = some r := by
  induction d with
  | zero =>
    intro k i h0 h1 hd hk
    obtain ⟨k, rfl⟩ : ∃ m, k = m + 1 := ⟨k - 1, by omega⟩
    have h : ¬ i < (s.size : Int) := by omega
    exact ⟨_, by simp only [spec_TextOk.l0]; rw [if_neg h], by simp only [impl_TextOk.l0]; rw [if_neg h]⟩
  | succ d ih =>
    intro k i h0 h1 hd hk
    obtain ⟨k, rfl⟩ : ∃ m, k = m + 1 := ⟨k - 1, by omega⟩
    have h : i < (s.size : Int) := by omega
    have hb := bt_range s i
    have hw : wrap64 (bt s i) = bt s i := w64 (by omega) (by omega)
    have hw1 : wrap64 (i + 1) = i + 1 := w64 (by omega) (by omega)
    obtain ⟨r, hr1, hr2⟩ := ih k (i + 1) (by omega) (by omega) (by omega) (by omega)
    by_cases hlo : bt s i < 32
    · refine ⟨false, ?_, ?_⟩
      · simp only [spec_TextOk.l0]; rw [if_pos h, if_pos h0, if_pos hlo]
      · simp only [impl_TextOk.l0, impl_from.f]; rw [if_pos h, if_pos h0, if_pos h, hw, if_neg (by omega)]; rfl
    · by_cases hhi : bt s i > 126
      · refine ⟨false, ?_, ?_⟩
        · simp only [spec_TextOk.l0]; rw [if_pos h, if_pos h0, if_neg hlo, if_pos hhi]
        · simp only [impl_TextOk.l0, impl_from.f]; rw [if_pos h, if_pos h0, if_pos h, hw, if_pos (by omega), decide_eq_false (by omega)]; rfl
      · refine ⟨r, ?_, ?_⟩
        · simp only [spec_TextOk.l0]; rw [if_pos h, if_pos h0, if_neg hlo, if_neg hhi, hw1, hr1]
        · simp only [impl_TextOk.l0, impl_from.f]; rw [if_pos h, if_pos h0, if_pos h, hw, if_pos (by omega), decide_eq_true (by omega)]; simp [hw1, hr2]
theorem FnExactTextOk : laws_FnExactTextOk.Pure := by
  intro s hs
  obtain ⟨r, h1, h2⟩ := text_loops s hs s.size (s.size + 1) 0 (by omega) (by omega) (by omega) (by omega)
  refine ⟨s.size + 1, ?_⟩
  unfold laws_FnExactTextOk.f spec_TextOk.f impl_TextOk.f
  rw [h1, h2]
  simp

end Go.Proofs.Ytedcaojahfmgnaa.Pure
