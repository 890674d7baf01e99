/- Every exported constant of the program is the document's: the law returns true. No condition. -/
import Derived.Test.YtadcjkendddgdaaPAllx1
namespace Go.Proofs.Ytadcjkendddgdaa.Pure
open Go.RowKit Go.Proofs.Ytadcjkendddgdaa.PAll Go.Proofs.YtadcjkendddgdaaW.PrintWords Go.Proofs.YtadcjkendddgdaaW.PrintLast

theorem FnExactConstants : laws_FnExactConstants.Pure := rfl

end Go.Proofs.Ytadcjkendddgdaa.Pure
