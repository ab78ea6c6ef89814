/- In between: program and reference ask the same. -/
import Derived.Test.YtnbnpgjgibcmpaaAid
import Derived.Test.YtnbnpgjgibcmpaaP_spec_l1In
namespace Go.Proofs.Ytnbnpgjgibcmpaa.M
open Go.RowKit Go.Proofs.Ytnbnpgjgibcmpaa.P Go.Proofs.YtnbnpgjgibcmpaaW.PrintWords

theorem l1In_eq (n a b : Int) : spec_l1In.f n a b = some (inB n a b) := by
  unfold spec_l1In.f inB
  by_cases h : n ≥ a
  · have : a ≤ n := h
    simp [this]
  · have : ¬ a ≤ n := h
    simp [this]
theorem from_eq (n a b : Int) : impl_from.f n a b = some (inB n a b) := l1In_eq n a b
end Go.Proofs.Ytnbnpgjgibcmpaa.M
