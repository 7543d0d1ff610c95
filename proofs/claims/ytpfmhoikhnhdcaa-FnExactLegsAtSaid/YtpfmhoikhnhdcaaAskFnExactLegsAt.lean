/- The pure statement of the law FnExactLegsAt, typed by row.py: no condition of its own. -/
import Derived.Test.YtpfmhoikhnhdcaaPFnExactLegsAtx4
namespace Go.Proofs.Ytpfmhoikhnhdcaa.AskFnExactLegsAt
open Go.RowKit Go.Proofs.Ytpfmhoikhnhdcaa.PFnExactLegsAt Go.Proofs.YtpfmhoikhnhdcaaW.PrintWords Go.Proofs.YtpfmhoikhnhdcaaW.PrintLast
def WfS115 (x : S115) : Prop := (Lit.int .i64 x.f0).wf = true ∧ (Lit.int .i64 x.f1).wf = true ∧ (Lit.int .i64 x.f2).wf = true ∧ (Lit.int .i64 x.f3).wf = true ∧ (Lit.int .i64 x.f4).wf = true
def Asked : Prop := ∀ (l0 : List (S115)) (a1 : Int), l0.length * 40 ≤ 140737488351232 → (∀ y ∈ l0, WfS115 y) → (Lit.int .i64 a1).wf = true → ∃ k, laws_FnExactLegsAt.f k l0 a1 = some true
end Go.Proofs.Ytpfmhoikhnhdcaa.AskFnExactLegsAt
