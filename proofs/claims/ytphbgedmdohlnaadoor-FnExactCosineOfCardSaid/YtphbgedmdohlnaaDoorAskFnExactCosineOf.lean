/- The pure statement of the law FnExactCosineOf, typed by row.py: no condition of its own. -/
import Derived.Test.YtphbgedmdohlnaaDoorXFnExactCosineOfx1
namespace Go.Proofs.YtphbgedmdohlnaaDoor.AskFnExactCosineOf
open Go.RowKit Go.Proofs.YtphbgedmdohlnaaDoor.XFnExactCosineOf Go.Proofs.YtphbgedmdohlnaaDoorW.PrintWords Go.Proofs.YtphbgedmdohlnaaDoorW.PrintLast
def Asked : Prop := ∀ (a0 : Int), (Lit.int .i64 a0).wf = true → laws_FnExactCosineOf.f a0 = some true
end Go.Proofs.YtphbgedmdohlnaaDoor.AskFnExactCosineOf
