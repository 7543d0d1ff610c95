/- The pure statement of the law FnExactMissingSkills, typed by row.py: no condition of its own. -/
import Derived.Test.YtafdklajmklmkaaDoorXFnExactMissingSkillsx8
namespace Go.Proofs.YtafdklajmklmkaaDoor.AskFnExactMissingSkills
open Go.RowKit Go.Proofs.YtafdklajmklmkaaDoor.XFnExactMissingSkills Go.Proofs.YtafdklajmklmkaaDoorW.PrintWords Go.Proofs.YtafdklajmklmkaaDoorW.PrintLast
def WfS55 (x : S55) : Prop := (Lit.int .i64 x.f0).wf = true ∧ (fun s : ByteArray => s.size ≤ maxLen) x.f1 ∧ (Lit.int .i64 x.f2).wf = true ∧ (Lit.int .i64 x.f3).wf = true
def Asked : Prop := ∀ (l0 : List (S55)) (l1 : List (Int)) (a2 : Int), l0.length * 40 ≤ 140737488351232 → (∀ y ∈ l0, WfS55 y) → l1.length * 8 ≤ 140737488351232 → (∀ y ∈ l1, (fun y : Int => (Lit.int .i64 y).wf = true) y) → (Lit.int .i64 a2).wf = true → ∃ k, laws_FnExactMissingSkills.f k l0 l1 a2 = some true
end Go.Proofs.YtafdklajmklmkaaDoor.AskFnExactMissingSkills
