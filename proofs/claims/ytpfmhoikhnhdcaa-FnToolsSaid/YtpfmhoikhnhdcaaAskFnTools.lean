/- The pure statement of the law FnTools, typed by row.py: no condition of its own. -/
import Derived.Test.YtpfmhoikhnhdcaaXFnToolsx12
namespace Go.Proofs.Ytpfmhoikhnhdcaa.AskFnTools
open Go.RowKit Go.Proofs.Ytpfmhoikhnhdcaa.XFnTools Go.Proofs.YtpfmhoikhnhdcaaW.PrintWords Go.Proofs.YtpfmhoikhnhdcaaW.PrintLast
def Asked : Prop := ∀ (l0 : List (Int)), l0.length * 1 ≤ 140737488351232 → (∀ y ∈ l0, (fun y : Int => (Lit.int .u8 y).wf = true) y) → ∃ k, laws_FnTools.f k l0 = some true
end Go.Proofs.Ytpfmhoikhnhdcaa.AskFnTools
