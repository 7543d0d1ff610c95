/- The pure statement of the law FnExactParseLeg, typed by row.py: no condition of its own. -/
import Derived.Test.YtcmccjiimiomhaaDoorXFnExactParseLegx7
namespace Go.Proofs.YtcmccjiimiomhaaDoor.AskFnExactParseLeg
open Go.RowKit Go.Proofs.YtcmccjiimiomhaaDoor.XFnExactParseLeg Go.Proofs.YtcmccjiimiomhaaDoorW.PrintWords Go.Proofs.YtcmccjiimiomhaaDoorW.PrintLast
def Asked : Prop := ∀ (a0 : ByteArray), a0.size ≤ 140737488351232 → ∃ k, laws_FnExactParseLeg.f k a0 = some true
end Go.Proofs.YtcmccjiimiomhaaDoor.AskFnExactParseLeg
