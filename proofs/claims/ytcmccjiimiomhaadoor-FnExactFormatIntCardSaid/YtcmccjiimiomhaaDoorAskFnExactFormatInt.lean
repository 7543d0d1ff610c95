/- The pure statement of the law FnExactFormatInt, typed by row.py: no condition of its own. -/
import Derived.Test.YtcmccjiimiomhaaDoorXFnExactFormatIntx1
namespace Go.Proofs.YtcmccjiimiomhaaDoor.AskFnExactFormatInt
open Go.RowKit Go.Proofs.YtcmccjiimiomhaaDoor.XFnExactFormatInt Go.Proofs.YtcmccjiimiomhaaDoorW.PrintWords Go.Proofs.YtcmccjiimiomhaaDoorW.PrintLast
def Asked : Prop := ∀ (a0 : Int), (Lit.int .i64 a0).wf = true → ∃ k, laws_FnExactFormatInt.f k a0 = some true
end Go.Proofs.YtcmccjiimiomhaaDoor.AskFnExactFormatInt
