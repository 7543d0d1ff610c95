/- The pure statement of the law FnExactExtentOf, typed by row.py: no condition of its own. -/
import Derived.Test.YtjcmolbaanedaaaDoorXFnExactExtentOfx8
namespace Go.Proofs.YtjcmolbaanedaaaDoor.AskFnExactExtentOf
open Go.RowKit Go.Proofs.YtjcmolbaanedaaaDoor.XFnExactExtentOf Go.Proofs.YtjcmolbaanedaaaDoorW.PrintWords Go.Proofs.YtjcmolbaanedaaaDoorW.PrintLast
def WfS23 (x : S23) : Prop := (Lit.int .i64 x.f0).wf = true ∧ (Lit.int .i64 x.f1).wf = true ∧ (Lit.int .i64 x.f2).wf = true ∧ (Lit.int .i64 x.f3).wf = true ∧ (Lit.int .i64 x.f4).wf = true
def Asked : Prop := ∀ (l0 : List (S23)), l0.length * 40 ≤ 140737488351232 → (∀ y ∈ l0, WfS23 y) → ∃ k, laws_FnExactExtentOf.f k l0 = some true
end Go.Proofs.YtjcmolbaanedaaaDoor.AskFnExactExtentOf
