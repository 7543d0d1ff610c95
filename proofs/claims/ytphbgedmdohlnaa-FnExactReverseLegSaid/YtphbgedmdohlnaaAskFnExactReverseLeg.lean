/- The pure statement of the law FnExactReverseLeg, typed by row.py: no condition of its own. -/
import Derived.Test.YtphbgedmdohlnaaPFnExactReverseLegx1
namespace Go.Proofs.Ytphbgedmdohlnaa.AskFnExactReverseLeg
open Go.RowKit Go.Proofs.Ytphbgedmdohlnaa.PFnExactReverseLeg Go.Proofs.YtphbgedmdohlnaaW.PrintWords Go.Proofs.YtphbgedmdohlnaaW.PrintLast
def Asked : Prop := ∀ (a0_0 : Int) (a0_1 : Int) (a0_2 : Int) (a0_3 : Int) (a0_4 : Int), (Lit.int .i64 a0_0).wf = true → (Lit.int .i64 a0_1).wf = true → (Lit.int .i64 a0_2).wf = true → (Lit.int .i64 a0_3).wf = true → (Lit.int .i64 a0_4).wf = true → laws_FnExactReverseLeg.f a0_0 a0_1 a0_2 a0_3 a0_4 = some true
end Go.Proofs.Ytphbgedmdohlnaa.AskFnExactReverseLeg
