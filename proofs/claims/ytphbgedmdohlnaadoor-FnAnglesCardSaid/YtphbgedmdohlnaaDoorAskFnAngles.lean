/- The pure statement of the law FnAngles, typed by row.py: no condition of its own. -/
import Derived.Test.YtphbgedmdohlnaaDoorXFnAnglesx4
namespace Go.Proofs.YtphbgedmdohlnaaDoor.AskFnAngles
open Go.RowKit Go.Proofs.YtphbgedmdohlnaaDoor.XFnAngles Go.Proofs.YtphbgedmdohlnaaDoorW.PrintWords Go.Proofs.YtphbgedmdohlnaaDoorW.PrintLast
def Asked : Prop := ∀ (l0 : List (Int)), l0.length * 1 ≤ 140737488351232 → (∀ y ∈ l0, (fun y : Int => (Lit.int .u8 y).wf = true) y) → ∃ k, laws_FnAngles.f k l0 = some true
end Go.Proofs.YtphbgedmdohlnaaDoor.AskFnAngles
