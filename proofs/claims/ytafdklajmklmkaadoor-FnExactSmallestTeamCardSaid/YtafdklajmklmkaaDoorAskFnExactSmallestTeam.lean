/- The pure statement of the law FnExactSmallestTeam, typed by row.py: no condition of its own. -/
import Derived.Test.YtafdklajmklmkaaDoorXFnExactSmallestTeamx9
namespace Go.Proofs.YtafdklajmklmkaaDoor.AskFnExactSmallestTeam
open Go.RowKit Go.Proofs.YtafdklajmklmkaaDoor.XFnExactSmallestTeam Go.Proofs.YtafdklajmklmkaaDoorW.PrintWords Go.Proofs.YtafdklajmklmkaaDoorW.PrintLast
def WfS55 (x : S55) : Prop := (Lit.int .i64 x.f0).wf = true ∧ (fun s : ByteArray => s.size ≤ maxLen) x.f1 ∧ (Lit.int .i64 x.f2).wf = true ∧ (Lit.int .i64 x.f3).wf = true
def Asked : Prop := ∀ (l0 : List (S55)) (a1 : Int), l0.length * 40 ≤ 140737488351232 → (∀ y ∈ l0, WfS55 y) → (Lit.int .i64 a1).wf = true → ∃ k, laws_FnExactSmallestTeam.f k l0 a1 = some true
end Go.Proofs.YtafdklajmklmkaaDoor.AskFnExactSmallestTeam
