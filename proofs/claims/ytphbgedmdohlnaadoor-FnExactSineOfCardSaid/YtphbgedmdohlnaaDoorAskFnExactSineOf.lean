/- The pure statement of the law FnExactSineOf, typed by row.py: no condition of its own. -/
import Derived.Test.YtphbgedmdohlnaaDoorXFnExactSineOfx1
namespace Go.Proofs.YtphbgedmdohlnaaDoor.AskFnExactSineOf
open Go.RowKit Go.Proofs.YtphbgedmdohlnaaDoor.XFnExactSineOf Go.Proofs.YtphbgedmdohlnaaDoorW.PrintWords Go.Proofs.YtphbgedmdohlnaaDoorW.PrintLast
def Asked : Prop := ∀ (a0 : Int), (Lit.int .i64 a0).wf = true → laws_FnExactSineOf.f a0 = some true
end Go.Proofs.YtphbgedmdohlnaaDoor.AskFnExactSineOf
