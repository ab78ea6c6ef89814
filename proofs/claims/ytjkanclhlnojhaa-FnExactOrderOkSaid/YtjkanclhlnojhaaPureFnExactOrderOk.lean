/- FnExactOrderOk: the program's OrderOk returns what the reference's returns, for all arguments, and leaves its argument as it was. No condition. -/
import Derived.Test.YtjkanclhlnojhaaAid
import Derived.Test.YtjkanclhlnojhaaBytes
import Derived.Test.YtjkanclhlnojhaaLists
import Derived.Test.YtjkanclhlnojhaaOrder
import Derived.Test.YtjkanclhlnojhaaOrderOk
import Derived.Test.YtjkanclhlnojhaaP_laws_FnExactOrderOk
import Derived.Test.YtjkanclhlnojhaaShare
import Derived.Test.YtjkanclhlnojhaaStFnExactOrderOk
namespace Go.Proofs.Ytjkanclhlnojhaa.Pure
open Go.RowKit Go.Proofs.Ytjkanclhlnojhaa.P Go.Proofs.Ytjkanclhlnojhaa.M Go.Proofs.Ytjkanclhlnojhaa.O Go.Proofs.YtjkanclhlnojhaaW.PrintWords

theorem orderIn' {o : S60} (g : good60 o) : OrderIn o := by
  obtain ⟨h0, h1, h2, h3, ⟨h4, h5⟩, h6, ⟨h7, h8⟩⟩ := g
  exact ⟨h0, h1, h4, fun x hx => (h5 x hx).1, h7, fun x hx => ⟨(h8 x hx).1, (h8 x hx).2⟩⟩
theorem FnExactOrderOk : St.laws_FnExactOrderOk.Pure := by
  intro a ga
  have ga := orderIn' ga
  refine ⟨4194305 + a.f4.length + a.f6.length, ?_⟩
  generalize hk : 4194305 + a.f4.length + a.f6.length = k
  unfold laws_FnExactOrderOk.f
  rw [szOrder_eq a ga 1048576 (by omega) (by omega) _ (by omega) (by omega), Option.bind_some]
  by_cases h : szLeft (totOrder a) 1048576 < 0
  · rw [if_pos h]
  · have hle := szLeft_neg h
    have a0 : a.f0.size ≤ 1048576 := by unfold totOrder at hle; omega
    have a1 : a.f1.size ≤ 1048576 := by unfold totOrder at hle; omega
    have a4 : a.f4.length ≤ 1048576 := by unfold totOrder at hle; omega
    have a6 : a.f6.length ≤ 1048576 := by unfold totOrder at hle; omega
    have am : ∀ m ∈ a.f4.map toM, m.f0.size ≤ 1048576 := by
      intro m hm
      obtain ⟨x, hx, rfl⟩ := List.mem_map.1 hm
      have := mem_le_sum totMetric a.f4 x hx
      show x.f0.size ≤ _
      unfold totOrder at hle; unfold totMetric at this hle; omega
    have an : ∀ m ∈ a.f6.map toN, m.f0.size ≤ 1048576 ∧ m.f1.size ≤ 1048576 := by
      intro m hm
      obtain ⟨x, hx, rfl⟩ := List.mem_map.1 hm
      have := mem_le_sum totNote a.f6 x hx
      show x.f0.size ≤ _ ∧ x.f1.size ≤ _
      unfold totOrder at hle; unfold totNote at this hle; omega
    rw [if_neg h]
    simp only [toOrder_eq a a4 a6 k (by omega) (by omega), Option.bind_some]
    rw [spec_orderOk _ _ _ _ _ _ _ _ _ _ a0 a1 (by simpa using a4) am (by simpa using a6) an _ (by omega), impl_orderOk _ _ _ _ _ _ _ _ _ _ a0 a1 (by simpa using a4) am (by simpa using a6) an _ (by omega)]
    simp only [Option.bind_some, bne_self_eq_false, Bool.false_eq_true, if_false]
    rw [eqOrder_self _ _ _ _ _ _ _ _ _ _ (by simpa using a4) (by simpa using a6) _ (by simp; omega) (by simp; omega)]
    simp
end Go.Proofs.Ytjkanclhlnojhaa.Pure
