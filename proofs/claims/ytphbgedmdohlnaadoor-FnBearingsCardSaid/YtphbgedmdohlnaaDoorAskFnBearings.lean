/- The pure statement of the law FnBearings, typed by row.py: no condition of its own. -/
import Derived.Test.YtphbgedmdohlnaaDoorXFnBearingsx5
namespace Go.Proofs.YtphbgedmdohlnaaDoor.AskFnBearings
open Go.RowKit Go.Proofs.YtphbgedmdohlnaaDoor.XFnBearings Go.Proofs.YtphbgedmdohlnaaDoorW.PrintWords Go.Proofs.YtphbgedmdohlnaaDoorW.PrintLast
def Asked : Prop := ∀ (l0 : List (Int)), l0.length * 1 ≤ 140737488351232 → (∀ y ∈ l0, (fun y : Int => (Lit.int .u8 y).wf = true) y) → ∃ k, laws_FnBearings.f k l0 = some true
end Go.Proofs.YtphbgedmdohlnaaDoor.AskFnBearings
