/- The pure statement of the law FnExactAppendChecksum, typed by row.py: no condition of its own. -/
import Derived.Test.YtcmccjiimiomhaaDoorXFnExactAppendChecksumx2
namespace Go.Proofs.YtcmccjiimiomhaaDoor.AskFnExactAppendChecksum
open Go.RowKit Go.Proofs.YtcmccjiimiomhaaDoor.XFnExactAppendChecksum Go.Proofs.YtcmccjiimiomhaaDoorW.PrintWords Go.Proofs.YtcmccjiimiomhaaDoorW.PrintLast
def Asked : Prop := ∀ (a0 : ByteArray), a0.size ≤ 140737488351232 → ∃ k, laws_FnExactAppendChecksum.f k a0 = some true
end Go.Proofs.YtcmccjiimiomhaaDoor.AskFnExactAppendChecksum
