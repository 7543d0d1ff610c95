/- The pure statement of the law FnExactGoOnTrip, typed by row.py: no condition of its own. -/
import Derived.Test.YtafdklajmklmkaaDoorXFnExactGoOnTripx10
namespace Go.Proofs.YtafdklajmklmkaaDoor.AskFnExactGoOnTrip
open Go.RowKit Go.Proofs.YtafdklajmklmkaaDoor.XFnExactGoOnTrip Go.Proofs.YtafdklajmklmkaaDoorW.PrintWords Go.Proofs.YtafdklajmklmkaaDoorW.PrintLast
def WfS55 (x : S55) : Prop := (Lit.int .i64 x.f0).wf = true ∧ (fun s : ByteArray => s.size ≤ maxLen) x.f1 ∧ (Lit.int .i64 x.f2).wf = true ∧ (Lit.int .i64 x.f3).wf = true
def Asked : Prop := ∀ (l0 : List (S55)) (l1 : List (Int)), l0.length * 40 ≤ 140737488351232 → (∀ y ∈ l0, WfS55 y) → l1.length * 8 ≤ 140737488351232 → (∀ y ∈ l1, (fun y : Int => (Lit.int .i64 y).wf = true) y) → ∃ k, laws_FnExactGoOnTrip.f k l0 l1 = some true
end Go.Proofs.YtafdklajmklmkaaDoor.AskFnExactGoOnTrip
