/- The pure statement of the law FnExactBearingTo, typed by row.py: no condition of its own. -/
import Derived.Test.YtphbgedmdohlnaaDoorXFnExactBearingTox2
namespace Go.Proofs.YtphbgedmdohlnaaDoor.AskFnExactBearingTo
open Go.RowKit Go.Proofs.YtphbgedmdohlnaaDoor.XFnExactBearingTo Go.Proofs.YtphbgedmdohlnaaDoorW.PrintWords Go.Proofs.YtphbgedmdohlnaaDoorW.PrintLast
def Asked : Prop := ∀ (a0 : Int) (a1 : Int), (Lit.int .i64 a0).wf = true → (Lit.int .i64 a1).wf = true → ∃ k, laws_FnExactBearingTo.f k a0 a1 = some true
end Go.Proofs.YtphbgedmdohlnaaDoor.AskFnExactBearingTo
