/- The pure statement of the law FnExactAreTools, typed by row.py: no condition of its own. -/
import Derived.Test.YtldbeelhmplmcaaPFnExactAreToolsx5
namespace Go.Proofs.Ytldbeelhmplmcaa.AskFnExactAreTools
open Go.RowKit Go.Proofs.Ytldbeelhmplmcaa.PFnExactAreTools Go.Proofs.YtldbeelhmplmcaaW.PrintWords Go.Proofs.YtldbeelhmplmcaaW.PrintLast
def WfS38 (x : S38) : Prop := (Lit.int .i64 x.f0).wf = true ∧ (Lit.int .i64 x.f1).wf = true ∧ (Lit.int .i64 x.f2).wf = true ∧ (Lit.int .i64 x.f3).wf = true
def Asked : Prop := ∀ (l0 : List (S38)), l0.length * 32 ≤ 140737488351232 → (∀ y ∈ l0, WfS38 y) → ∃ k, laws_FnExactAreTools.f k l0 = some true
end Go.Proofs.Ytldbeelhmplmcaa.AskFnExactAreTools
