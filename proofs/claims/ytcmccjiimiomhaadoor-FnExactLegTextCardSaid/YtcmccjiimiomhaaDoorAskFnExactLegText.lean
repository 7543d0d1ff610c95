/- The pure statement of the law FnExactLegText, typed by row.py: no condition of its own. -/
import Derived.Test.YtcmccjiimiomhaaDoorXFnExactLegTextx3
namespace Go.Proofs.YtcmccjiimiomhaaDoor.AskFnExactLegText
open Go.RowKit Go.Proofs.YtcmccjiimiomhaaDoor.XFnExactLegText Go.Proofs.YtcmccjiimiomhaaDoorW.PrintWords Go.Proofs.YtcmccjiimiomhaaDoorW.PrintLast
def Asked : Prop := ∀ (a0_0 : Int) (a0_1 : Int) (a0_2 : Int) (a0_3 : Int) (a0_4 : Int), (Lit.int .i64 a0_0).wf = true → (Lit.int .i64 a0_1).wf = true → (Lit.int .i64 a0_2).wf = true → (Lit.int .i64 a0_3).wf = true → (Lit.int .i64 a0_4).wf = true → ∃ k, laws_FnExactLegText.f k a0_0 a0_1 a0_2 a0_3 a0_4 = some true
end Go.Proofs.YtcmccjiimiomhaaDoor.AskFnExactLegText
