/- The law of the constants answers true; no condition. -/
import Derived.Test.YtldbeelhmplmcaaPFnExactConstantsx1
namespace Go.Proofs.Ytldbeelhmplmcaa.Pure
open Go.RowKit Go.Proofs.Ytldbeelhmplmcaa.PFnExactConstants Go.Proofs.YtldbeelhmplmcaaW.PrintWords Go.Proofs.YtldbeelhmplmcaaW.PrintLast

theorem FnExactConstants : laws_FnExactConstants.Pure := rfl
end Go.Proofs.Ytldbeelhmplmcaa.Pure
