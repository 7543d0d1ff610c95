/- The pure statement of the law FnExactFitScale, typed by row.py: no condition of its own. -/
import Derived.Test.YtpfmhoikhnhdcaaPFnExactFitScalex8
namespace Go.Proofs.Ytpfmhoikhnhdcaa.AskFnExactFitScale
open Go.RowKit Go.Proofs.Ytpfmhoikhnhdcaa.PFnExactFitScale Go.Proofs.YtpfmhoikhnhdcaaW.PrintWords Go.Proofs.YtpfmhoikhnhdcaaW.PrintLast
def WfS41 (x : S41) : Prop := (Lit.int .i64 x.f0).wf = true ∧ (Lit.int .i64 x.f1).wf = true
def Asked : Prop := ∀ (a0_0 : Int) (a0_1 : Int) (a0_2 : Int) (a0_3 : Int) (l1 : List (S41)), (Lit.int .i64 a0_0).wf = true → (Lit.int .i64 a0_1).wf = true → (Lit.int .i64 a0_2).wf = true → (Lit.int .i64 a0_3).wf = true → l1.length * 16 ≤ 140737488351232 → (∀ y ∈ l1, WfS41 y) → ∃ k, laws_FnExactFitScale.f k a0_0 a0_1 a0_2 a0_3 l1 = some true
end Go.Proofs.Ytpfmhoikhnhdcaa.AskFnExactFitScale
