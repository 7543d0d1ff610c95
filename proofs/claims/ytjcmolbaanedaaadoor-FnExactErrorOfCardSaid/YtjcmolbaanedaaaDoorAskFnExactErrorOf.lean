/- The pure statement of the law FnExactErrorOf, typed by row.py: no condition of its own. -/
import Derived.Test.YtjcmolbaanedaaaDoorXFnExactErrorOfx7
namespace Go.Proofs.YtjcmolbaanedaaaDoor.AskFnExactErrorOf
open Go.RowKit Go.Proofs.YtjcmolbaanedaaaDoor.XFnExactErrorOf Go.Proofs.YtjcmolbaanedaaaDoorW.PrintWords Go.Proofs.YtjcmolbaanedaaaDoorW.PrintLast
def WfS23 (x : S23) : Prop := (Lit.int .i64 x.f0).wf = true ∧ (Lit.int .i64 x.f1).wf = true ∧ (Lit.int .i64 x.f2).wf = true ∧ (Lit.int .i64 x.f3).wf = true ∧ (Lit.int .i64 x.f4).wf = true
def Asked : Prop := ∀ (l0 : List (S23)) (a1 : Int), l0.length * 40 ≤ 140737488351232 → (∀ y ∈ l0, WfS23 y) → (Lit.int .i64 a1).wf = true → ∃ k, laws_FnExactErrorOf.f k l0 a1 = some true
end Go.Proofs.YtjcmolbaanedaaaDoor.AskFnExactErrorOf
