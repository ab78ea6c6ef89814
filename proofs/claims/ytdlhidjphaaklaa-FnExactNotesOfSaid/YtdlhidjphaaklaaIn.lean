/- In between: program and reference ask the same. -/
import Derived.Test.YtdlhidjphaaklaaAid
import Derived.Test.YtdlhidjphaaklaaP_impl_size
import Derived.Test.YtdlhidjphaaklaaP_laws_eqNode
namespace Go.Proofs.Ytdlhidjphaaklaa.M
open Go.RowKit Go.Proofs.Ytdlhidjphaaklaa.P Go.Proofs.YtdlhidjphaaklaaW.PrintWords

theorem l1In_eq (n a b : Int) : spec_l1In.f n a b = some (inB n a b) := by
  unfold spec_l1In.f inB
  by_cases h : n ≥ a
  · have : a ≤ n := h
    simp [this]
  · have : ¬ a ≤ n := h
    simp [this]
theorem from_eq (n a b : Int) : impl_from.f n a b = some (inB n a b) := l1In_eq n a b
theorem in_rng {n a b : Int} (h : inB n a b = true) : a ≤ n ∧ n ≤ b := by
  unfold inB at h
  simp only [Bool.and_eq_true, decide_eq_true_eq] at h
  exact h
theorem tdiv_n {n : Int} (h : 0 ≤ n) (c : Int) : Int.tdiv n c = n / c := Int.tdiv_eq_ediv_of_nonneg h
theorem tmod_n {n : Int} (h : 0 ≤ n) (c : Int) : Int.tmod n c = n % c := Int.tmod_eq_emod_of_nonneg h
end Go.Proofs.Ytdlhidjphaaklaa.M
