/- The pure statement of the law FnExactIsLeg, typed by row.py: no condition of its own. -/
import Derived.Test.YtldbeelhmplmcaaPFnExactIsLegx1
namespace Go.Proofs.Ytldbeelhmplmcaa.AskFnExactIsLeg
open Go.RowKit Go.Proofs.Ytldbeelhmplmcaa.PFnExactIsLeg Go.Proofs.YtldbeelhmplmcaaW.PrintWords Go.Proofs.YtldbeelhmplmcaaW.PrintLast
def Asked : Prop := ∀ (a0_0 : Int) (a0_1 : Int) (a0_2 : Int) (a0_3 : Int) (a0_4 : Int), (Lit.int .i64 a0_0).wf = true → (Lit.int .i64 a0_1).wf = true → (Lit.int .i64 a0_2).wf = true → (Lit.int .i64 a0_3).wf = true → (Lit.int .i64 a0_4).wf = true → laws_FnExactIsLeg.f a0_0 a0_1 a0_2 a0_3 a0_4 = some true
end Go.Proofs.Ytldbeelhmplmcaa.AskFnExactIsLeg
