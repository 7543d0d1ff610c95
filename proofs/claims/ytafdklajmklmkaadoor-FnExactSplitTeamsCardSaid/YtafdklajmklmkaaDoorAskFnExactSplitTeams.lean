/- The pure statement of the law FnExactSplitTeams, typed by row.py: no condition of its own. -/
import Derived.Test.YtafdklajmklmkaaDoorXFnExactSplitTeamsx11
namespace Go.Proofs.YtafdklajmklmkaaDoor.AskFnExactSplitTeams
open Go.RowKit Go.Proofs.YtafdklajmklmkaaDoor.XFnExactSplitTeams Go.Proofs.YtafdklajmklmkaaDoorW.PrintWords Go.Proofs.YtafdklajmklmkaaDoorW.PrintLast
def WfS55 (x : S55) : Prop := (Lit.int .i64 x.f0).wf = true ∧ (fun s : ByteArray => s.size ≤ maxLen) x.f1 ∧ (Lit.int .i64 x.f2).wf = true ∧ (Lit.int .i64 x.f3).wf = true
def Asked : Prop := ∀ (l0 : List (S55)), l0.length * 40 ≤ 140737488351232 → (∀ y ∈ l0, WfS55 y) → ∃ k, laws_FnExactSplitTeams.f k l0 = some true
end Go.Proofs.YtafdklajmklmkaaDoor.AskFnExactSplitTeams
