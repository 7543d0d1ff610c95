/- The pure statement of the law FnToolKinds, typed by row.py: no condition of its own. -/
import Derived.Test.YtpfmhoikhnhdcaaXFnToolKindsx16
namespace Go.Proofs.Ytpfmhoikhnhdcaa.AskFnToolKinds
open Go.RowKit Go.Proofs.Ytpfmhoikhnhdcaa.XFnToolKinds Go.Proofs.YtpfmhoikhnhdcaaW.PrintWords Go.Proofs.YtpfmhoikhnhdcaaW.PrintLast
def Asked : Prop := ∀ (l0 : List (Int)), l0.length * 1 ≤ 140737488351232 → (∀ y ∈ l0, (fun y : Int => (Lit.int .u8 y).wf = true) y) → ∃ k, laws_FnToolKinds.f k l0 = some true
end Go.Proofs.Ytpfmhoikhnhdcaa.AskFnToolKinds
