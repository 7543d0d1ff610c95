/- The pure statement of the law FnStrings, typed by row.py: no condition of its own. -/
import Derived.Test.YtcmccjiimiomhaaDoorXFnStringsx4
namespace Go.Proofs.YtcmccjiimiomhaaDoor.AskFnStrings
open Go.RowKit Go.Proofs.YtcmccjiimiomhaaDoor.XFnStrings Go.Proofs.YtcmccjiimiomhaaDoorW.PrintWords Go.Proofs.YtcmccjiimiomhaaDoorW.PrintLast
def Asked : Prop := ∀ (l0 : List (Int)), l0.length * 1 ≤ 140737488351232 → (∀ y ∈ l0, (fun y : Int => (Lit.int .u8 y).wf = true) y) → ∃ k, laws_FnStrings.f k l0 = some true
end Go.Proofs.YtcmccjiimiomhaaDoor.AskFnStrings
