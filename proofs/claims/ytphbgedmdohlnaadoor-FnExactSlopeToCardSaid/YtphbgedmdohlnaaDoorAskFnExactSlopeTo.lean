/- The pure statement of the law FnExactSlopeTo, typed by row.py: no condition of its own. -/
import Derived.Test.YtphbgedmdohlnaaDoorXFnExactSlopeTox2
namespace Go.Proofs.YtphbgedmdohlnaaDoor.AskFnExactSlopeTo
open Go.RowKit Go.Proofs.YtphbgedmdohlnaaDoor.XFnExactSlopeTo Go.Proofs.YtphbgedmdohlnaaDoorW.PrintWords Go.Proofs.YtphbgedmdohlnaaDoorW.PrintLast
def Asked : Prop := ∀ (a0 : Int) (a1 : Int), (Lit.int .i64 a0).wf = true → (Lit.int .i64 a1).wf = true → ∃ k, laws_FnExactSlopeTo.f k a0 a1 = some true
end Go.Proofs.YtphbgedmdohlnaaDoor.AskFnExactSlopeTo
