/- FnExactCeilDiv: the program's CeilDiv returns what the reference's returns, for all pairs of ints. No condition. -/
import Derived.Test.YtedcaojahfmgnaaPFnExactCeilDivx1
namespace Go.Proofs.Ytedcaojahfmgnaa.Pure
open Go.RowKit Go.Proofs.Ytedcaojahfmgnaa.PFnExactCeilDiv Go.Proofs.YtedcaojahfmgnaaW.PrintWords Go.Proofs.YtedcaojahfmgnaaW.PrintLast

theorem in_some (a b c : Int) : ∃ r, spec_l1In.f a b c = some r ∧ (r = true → b ≤ a) := by
  unfold spec_l1In.f
  by_cases h : a ≥ b
  · exact ⟨_, if_pos h, fun _ => h⟩
  · exact ⟨_, if_neg h, fun e => by cases e⟩
theorem ceil_some (a b : Int) : ∃ r, spec_CeilDiv.f a b = some r := by
  obtain ⟨x, hx, _⟩ := in_some a 0 1000000000000
  obtain ⟨y, hy, hb⟩ := in_some b 1 1000000000000
  unfold spec_CeilDiv.f
  rw [hx, hy]
  cases x <;> cases y <;> simp at hb ⊢
  have : b ≠ 0 := by omega
  simp [this]
theorem FnExactCeilDiv : laws_FnExactCeilDiv.Pure := by
  intro a b _ _
  obtain ⟨r, hr⟩ := ceil_some a b
  have e : impl_CeilDiv.f a b = some r := hr
  unfold laws_FnExactCeilDiv.f
  rw [hr, e]
  simp

end Go.Proofs.Ytedcaojahfmgnaa.Pure
