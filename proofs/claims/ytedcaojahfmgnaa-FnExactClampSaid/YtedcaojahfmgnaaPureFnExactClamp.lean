/- FnExactClamp: the program's Clamp returns what the reference's returns, for all ints. No condition. -/
import Derived.Test.YtedcaojahfmgnaaPFnExactClampx1
namespace Go.Proofs.Ytedcaojahfmgnaa.Pure
open Go.RowKit Go.Proofs.Ytedcaojahfmgnaa.PFnExactClamp Go.Proofs.YtedcaojahfmgnaaW.PrintWords Go.Proofs.YtedcaojahfmgnaaW.PrintLast

theorem FnExactClamp : laws_FnExactClamp.Pure := by
  intro a b c _ _ _
  unfold laws_FnExactClamp.f spec_Clamp.f impl_Clamp.f spec_l1Min.f
  by_cases h : a < b
  · simp [h]
  · by_cases h1 : a < c
    · have h2 : ¬ a > c := by omega
      simp [h, h1, h2]
    · by_cases h2 : a > c
      · simp [h, h1, h2]
      · obtain rfl : a = c := by omega
        simp [h]

end Go.Proofs.Ytedcaojahfmgnaa.Pure
