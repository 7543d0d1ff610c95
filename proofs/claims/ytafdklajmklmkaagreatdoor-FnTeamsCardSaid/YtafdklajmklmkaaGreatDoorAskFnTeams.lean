/- The pure statement of the law FnTeams, typed by row.py: no condition of its own. -/
import Derived.Test.YtafdklajmklmkaaGreatDoorXFnTeamsx16
namespace Go.Proofs.YtafdklajmklmkaaGreatDoor.AskFnTeams
open Go.RowKit Go.Proofs.YtafdklajmklmkaaGreatDoor.XFnTeams Go.Proofs.YtafdklajmklmkaaGreatDoorW.PrintWords Go.Proofs.YtafdklajmklmkaaGreatDoorW.PrintLast
def Asked : Prop := ∀ (l0 : List (Int)), l0.length * 1 ≤ 140737488351232 → (∀ y ∈ l0, (fun y : Int => (Lit.int .u8 y).wf = true) y) → ∃ k, laws_FnTeams.f k l0 = some true
end Go.Proofs.YtafdklajmklmkaaGreatDoor.AskFnTeams
