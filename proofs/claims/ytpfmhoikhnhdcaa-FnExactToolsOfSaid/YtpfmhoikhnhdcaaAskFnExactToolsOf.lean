/- The pure statement of the law FnExactToolsOf, typed by row.py: no condition of its own. -/
import Derived.Test.YtpfmhoikhnhdcaaPFnExactToolsOfx7
namespace Go.Proofs.Ytpfmhoikhnhdcaa.AskFnExactToolsOf
open Go.RowKit Go.Proofs.Ytpfmhoikhnhdcaa.PFnExactToolsOf Go.Proofs.YtpfmhoikhnhdcaaW.PrintWords Go.Proofs.YtpfmhoikhnhdcaaW.PrintLast
def WfS39 (x : S39) : Prop := (Lit.int .i64 x.f0).wf = true ∧ (Lit.int .i64 x.f1).wf = true ∧ (Lit.int .i64 x.f2).wf = true ∧ (Lit.int .i64 x.f3).wf = true
def Asked : Prop := ∀ (l0 : List (S39)) (a1 : Int), l0.length * 32 ≤ 140737488351232 → (∀ y ∈ l0, WfS39 y) → (Lit.int .i64 a1).wf = true → ∃ k, laws_FnExactToolsOf.f k l0 a1 = some true
end Go.Proofs.Ytpfmhoikhnhdcaa.AskFnExactToolsOf
