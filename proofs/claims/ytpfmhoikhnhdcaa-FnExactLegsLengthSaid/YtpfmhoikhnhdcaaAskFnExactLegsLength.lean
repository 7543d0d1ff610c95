/- The pure statement of the law FnExactLegsLength, typed by row.py: no condition of its own. -/
import Derived.Test.YtpfmhoikhnhdcaaPFnExactLegsLengthx3
namespace Go.Proofs.Ytpfmhoikhnhdcaa.AskFnExactLegsLength
open Go.RowKit Go.Proofs.Ytpfmhoikhnhdcaa.PFnExactLegsLength Go.Proofs.YtpfmhoikhnhdcaaW.PrintWords Go.Proofs.YtpfmhoikhnhdcaaW.PrintLast
def WfS115 (x : S115) : Prop := (Lit.int .i64 x.f0).wf = true ∧ (Lit.int .i64 x.f1).wf = true ∧ (Lit.int .i64 x.f2).wf = true ∧ (Lit.int .i64 x.f3).wf = true ∧ (Lit.int .i64 x.f4).wf = true
def Asked : Prop := ∀ (l0 : List (S115)), l0.length * 40 ≤ 140737488351232 → (∀ y ∈ l0, WfS115 y) → ∃ k, laws_FnExactLegsLength.f k l0 = some true
end Go.Proofs.Ytpfmhoikhnhdcaa.AskFnExactLegsLength
