/- The pure statement of the law FnExactPartOf, typed by row.py: no condition of its own. -/
import Derived.Test.YtphbgedmdohlnaaDoorXFnExactPartOfx1
namespace Go.Proofs.YtphbgedmdohlnaaDoor.AskFnExactPartOf
open Go.RowKit Go.Proofs.YtphbgedmdohlnaaDoor.XFnExactPartOf Go.Proofs.YtphbgedmdohlnaaDoorW.PrintWords Go.Proofs.YtphbgedmdohlnaaDoorW.PrintLast
def Asked : Prop := ∀ (a0 : Int) (a1 : Int), (Lit.int .i64 a0).wf = true → (Lit.int .i64 a1).wf = true → ∃ k, laws_FnExactPartOf.f k a0 a1 = some true
end Go.Proofs.YtphbgedmdohlnaaDoor.AskFnExactPartOf
