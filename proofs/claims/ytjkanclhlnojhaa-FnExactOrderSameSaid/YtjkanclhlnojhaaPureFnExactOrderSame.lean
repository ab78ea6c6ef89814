/- FnExactOrderSame: the program's OrderSame returns what the reference's returns, for all arguments, and leaves its arguments as they were. No condition. -/
import Derived.Test.YtjkanclhlnojhaaAid
import Derived.Test.YtjkanclhlnojhaaBytes
import Derived.Test.YtjkanclhlnojhaaLists
import Derived.Test.YtjkanclhlnojhaaOrder
import Derived.Test.YtjkanclhlnojhaaOrderSame
import Derived.Test.YtjkanclhlnojhaaP_laws_FnExactOrderSame
import Derived.Test.YtjkanclhlnojhaaShare
import Derived.Test.YtjkanclhlnojhaaStFnExactOrderSame
namespace Go.Proofs.Ytjkanclhlnojhaa.Pure
open Go.RowKit Go.Proofs.Ytjkanclhlnojhaa.P Go.Proofs.Ytjkanclhlnojhaa.M Go.Proofs.Ytjkanclhlnojhaa.O Go.Proofs.YtjkanclhlnojhaaW.PrintWords

theorem orderIn {o : S60} (g : good60 o) : OrderIn o := by
  obtain ⟨h0, h1, h2, h3, ⟨h4, h5⟩, h6, ⟨h7, h8⟩⟩ := g
  exact ⟨h0, h1, h4, fun x hx => (h5 x hx).1, h7, fun x hx => ⟨(h8 x hx).1, (h8 x hx).2⟩⟩
theorem FnExactOrderSame : St.laws_FnExactOrderSame.Pure := by
  intro a b ga gb
  have ga := orderIn ga
  have gb := orderIn gb
  refine ⟨a.f4.length + a.f6.length + b.f4.length + b.f6.length + 4, ?_⟩
  generalize hk : a.f4.length + a.f6.length + b.f4.length + b.f6.length + 4 = k
  unfold laws_FnExactOrderSame.f
  rw [szOrder_eq a ga 1048576 (by omega) (by omega) k (by omega) (by omega), Option.bind_some]
  by_cases h : szLeft (totOrder a) 1048576 < 0
  · rw [if_pos h]
  · have hle := szLeft_neg h
    have e : szLeft (totOrder a) 1048576 = 1048576 - (totOrder a : Int) := if_pos hle
    rw [if_neg h, e, szOrder_eq b gb _ (by omega) (by omega) k (by omega) (by omega), Option.bind_some]
    by_cases h' : szLeft (totOrder b) (1048576 - (totOrder a : Int)) < 0
    · rw [if_pos h']
    · have hle' := szLeft_neg h'
      have a4 : a.f4.length ≤ 1048576 := by unfold totOrder at hle hle'; omega
      have a6 : a.f6.length ≤ 1048576 := by unfold totOrder at hle hle'; omega
      have b4 : b.f4.length ≤ 1048576 := by unfold totOrder at hle hle'; omega
      have b6 : b.f6.length ≤ 1048576 := by unfold totOrder at hle hle'; omega
      rw [if_neg h']
      simp only [toOrder_eq a a4 a6 k (by omega) (by omega), toOrder_eq b b4 b6 k (by omega) (by omega), Option.bind_some]
      obtain ⟨r, e1, e2⟩ := orderSame_eq a.f0 a.f1 a.f2 a.f3 (a.f4.map toM) a.f5.f0 a.f5.f1 a.f5.f2 a.f5.f3 (a.f6.map toN) b.f0 b.f1 b.f2 b.f3 (b.f4.map toM) b.f5.f0 b.f5.f1 b.f5.f2 b.f5.f3 (b.f6.map toN) (by simpa using a4) (by simpa using a6) k (by simp; omega)
      rw [e1, e2]
      simp only [Option.bind_some, bne_self_eq_false, Bool.false_eq_true, if_false]
      rw [eqOrder_self _ _ _ _ _ _ _ _ _ _ (by simpa using a4) (by simpa using a6) k (by simp; omega) (by simp; omega), Option.bind_some, eqOrder_self _ _ _ _ _ _ _ _ _ _ (by simpa using b4) (by simpa using b6) k (by simp; omega) (by simp; omega)]
      simp
end Go.Proofs.Ytjkanclhlnojhaa.Pure
