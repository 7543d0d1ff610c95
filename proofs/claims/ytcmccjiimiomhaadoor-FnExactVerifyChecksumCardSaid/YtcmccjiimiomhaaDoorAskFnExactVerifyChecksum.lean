/- The pure statement of the law FnExactVerifyChecksum, typed by row.py: no condition of its own. -/
import Derived.Test.YtcmccjiimiomhaaDoorXFnExactVerifyChecksumx2
namespace Go.Proofs.YtcmccjiimiomhaaDoor.AskFnExactVerifyChecksum
open Go.RowKit Go.Proofs.YtcmccjiimiomhaaDoor.XFnExactVerifyChecksum Go.Proofs.YtcmccjiimiomhaaDoorW.PrintWords Go.Proofs.YtcmccjiimiomhaaDoorW.PrintLast
def Asked : Prop := ∀ (a0 : ByteArray), a0.size ≤ 140737488351232 → ∃ k, laws_FnExactVerifyChecksum.f k a0 = some true
end Go.Proofs.YtcmccjiimiomhaaDoor.AskFnExactVerifyChecksum
