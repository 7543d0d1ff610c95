/- The pure statement of the law FnExactJoinStrings, typed by row.py: no condition of its own. -/
import Derived.Test.YtpfmhoikhnhdcaaXFnExactJoinStringsx2
namespace Go.Proofs.Ytpfmhoikhnhdcaa.AskFnExactJoinStrings
open Go.RowKit Go.Proofs.Ytpfmhoikhnhdcaa.XFnExactJoinStrings Go.Proofs.YtpfmhoikhnhdcaaW.PrintWords Go.Proofs.YtpfmhoikhnhdcaaW.PrintLast
def Asked : Prop := ∀ (l0 : List (ByteArray)) (a1 : ByteArray), l0.length * 16 ≤ 140737488351232 → (∀ y ∈ l0, (fun s : ByteArray => s.size ≤ maxLen) y) → a1.size ≤ 140737488351232 → ∃ k, laws_FnExactJoinStrings.f k l0 a1 = some true
end Go.Proofs.Ytpfmhoikhnhdcaa.AskFnExactJoinStrings
