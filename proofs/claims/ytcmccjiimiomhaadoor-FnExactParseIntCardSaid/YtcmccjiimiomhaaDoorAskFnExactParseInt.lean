/- The pure statement of the law FnExactParseInt, typed by row.py: no condition of its own. -/
import Derived.Test.YtcmccjiimiomhaaDoorXFnExactParseIntx2
namespace Go.Proofs.YtcmccjiimiomhaaDoor.AskFnExactParseInt
open Go.RowKit Go.Proofs.YtcmccjiimiomhaaDoor.XFnExactParseInt Go.Proofs.YtcmccjiimiomhaaDoorW.PrintWords Go.Proofs.YtcmccjiimiomhaaDoorW.PrintLast
def Asked : Prop := ∀ (a0 : ByteArray), a0.size ≤ 140737488351232 → ∃ k, laws_FnExactParseInt.f k a0 = some true
end Go.Proofs.YtcmccjiimiomhaaDoor.AskFnExactParseInt
