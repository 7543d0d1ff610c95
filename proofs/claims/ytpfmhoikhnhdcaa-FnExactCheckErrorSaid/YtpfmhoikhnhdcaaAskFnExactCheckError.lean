/- The pure statement of the law FnExactCheckError, typed by row.py: no condition of its own. -/
import Derived.Test.YtpfmhoikhnhdcaaPFnExactCheckErrorx5
namespace Go.Proofs.Ytpfmhoikhnhdcaa.AskFnExactCheckError
open Go.RowKit Go.Proofs.Ytpfmhoikhnhdcaa.PFnExactCheckError Go.Proofs.YtpfmhoikhnhdcaaW.PrintWords Go.Proofs.YtpfmhoikhnhdcaaW.PrintLast
def Asked : Prop := ∀ (a0_0 : Int) (a0_1 : Int) (a0_2 : Int) (a0_3 : Int) (a1_0 : Int) (a1_1 : Int), (Lit.int .i64 a0_0).wf = true → (Lit.int .i64 a0_1).wf = true → (Lit.int .i64 a0_2).wf = true → (Lit.int .i64 a0_3).wf = true → (Lit.int .i64 a1_0).wf = true → (Lit.int .i64 a1_1).wf = true → ∃ k, laws_FnExactCheckError.f k a0_0 a0_1 a0_2 a0_3 a1_0 a1_1 = some true
end Go.Proofs.Ytpfmhoikhnhdcaa.AskFnExactCheckError
