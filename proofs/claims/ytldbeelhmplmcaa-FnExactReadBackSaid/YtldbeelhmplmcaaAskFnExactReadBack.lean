/- The pure statement of the law FnExactReadBack, typed by row.py: no condition of its own. -/
import Derived.Test.YtldbeelhmplmcaaPFnExactReadBackx2
namespace Go.Proofs.Ytldbeelhmplmcaa.AskFnExactReadBack
open Go.RowKit Go.Proofs.Ytldbeelhmplmcaa.PFnExactReadBack Go.Proofs.YtldbeelhmplmcaaW.PrintWords Go.Proofs.YtldbeelhmplmcaaW.PrintLast
def Asked : Prop := ∀ (a0_0 : Int) (a0_1 : Int) (a0_2 : Int) (a0_3 : Int) (a1 : Int), (Lit.int .i64 a0_0).wf = true → (Lit.int .i64 a0_1).wf = true → (Lit.int .i64 a0_2).wf = true → (Lit.int .i64 a0_3).wf = true → (Lit.int .i64 a1).wf = true → ∃ k, laws_FnExactReadBack.f k a0_0 a0_1 a0_2 a0_3 a1 = some true
end Go.Proofs.Ytldbeelhmplmcaa.AskFnExactReadBack
