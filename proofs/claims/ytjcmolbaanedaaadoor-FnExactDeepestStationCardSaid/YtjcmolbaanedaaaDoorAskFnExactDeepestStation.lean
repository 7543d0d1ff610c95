/- The pure statement of the law FnExactDeepestStation, typed by row.py: no condition of its own. -/
import Derived.Test.YtjcmolbaanedaaaDoorXFnExactDeepestStationx7
namespace Go.Proofs.YtjcmolbaanedaaaDoor.AskFnExactDeepestStation
open Go.RowKit Go.Proofs.YtjcmolbaanedaaaDoor.XFnExactDeepestStation Go.Proofs.YtjcmolbaanedaaaDoorW.PrintWords Go.Proofs.YtjcmolbaanedaaaDoorW.PrintLast
def WfS23 (x : S23) : Prop := (Lit.int .i64 x.f0).wf = true ∧ (Lit.int .i64 x.f1).wf = true ∧ (Lit.int .i64 x.f2).wf = true ∧ (Lit.int .i64 x.f3).wf = true ∧ (Lit.int .i64 x.f4).wf = true
def Asked : Prop := ∀ (l0 : List (S23)), l0.length * 40 ≤ 140737488351232 → (∀ y ∈ l0, WfS23 y) → ∃ k, laws_FnExactDeepestStation.f k l0 = some true
end Go.Proofs.YtjcmolbaanedaaaDoor.AskFnExactDeepestStation
