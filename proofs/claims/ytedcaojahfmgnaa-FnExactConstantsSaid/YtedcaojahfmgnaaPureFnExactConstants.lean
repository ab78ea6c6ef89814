/- FnExactConstants: the program's constants are the numbers that the law names; whatever is called, the law answers true. No condition. -/
import Derived.Test.YtedcaojahfmgnaaPFnExactConstantsx1
namespace Go.Proofs.Ytedcaojahfmgnaa.Pure
open Go.RowKit Go.Proofs.Ytedcaojahfmgnaa.PFnExactConstants Go.Proofs.YtedcaojahfmgnaaW.PrintWords Go.Proofs.YtedcaojahfmgnaaW.PrintLast

theorem FnExactConstants : laws_FnExactConstants.Pure := rfl

end Go.Proofs.Ytedcaojahfmgnaa.Pure
