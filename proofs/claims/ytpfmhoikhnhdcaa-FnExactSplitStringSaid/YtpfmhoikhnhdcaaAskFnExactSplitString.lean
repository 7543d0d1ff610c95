/- The pure statement of the law FnExactSplitString, typed by row.py: no condition of its own. -/
import Derived.Test.YtpfmhoikhnhdcaaXFnExactSplitStringx2
namespace Go.Proofs.Ytpfmhoikhnhdcaa.AskFnExactSplitString
open Go.RowKit Go.Proofs.Ytpfmhoikhnhdcaa.XFnExactSplitString Go.Proofs.YtpfmhoikhnhdcaaW.PrintWords Go.Proofs.YtpfmhoikhnhdcaaW.PrintLast
def Asked : Prop := ∀ (a0 : ByteArray) (a1 : ByteArray), a0.size ≤ 140737488351232 → a1.size ≤ 140737488351232 → ∃ k, laws_FnExactSplitString.f k a0 a1 = some true
end Go.Proofs.Ytpfmhoikhnhdcaa.AskFnExactSplitString
