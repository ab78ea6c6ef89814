/- FnExactPaceNew: the program's PaceNew returns the same pace as the reference's. No condition. -/
import Derived.Test.YtedcaojahfmgnaaPFnExactPaceNewx1
namespace Go.Proofs.Ytedcaojahfmgnaa.Pure
open Go.RowKit Go.Proofs.Ytedcaojahfmgnaa.PFnExactPaceNew Go.Proofs.YtedcaojahfmgnaaW.PrintWords Go.Proofs.YtedcaojahfmgnaaW.PrintLast

theorem FnExactPaceNew : laws_FnExactPaceNew.Pure := by
  unfold laws_FnExactPaceNew.Pure
  decide

end Go.Proofs.Ytedcaojahfmgnaa.Pure
