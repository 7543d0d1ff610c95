/- The law of LessString answers true for all strings; no condition but the strings' reach. -/
import Derived.Test.YtldbeelhmplmcaaPFnExactLessStringx1
namespace Go.Proofs.Ytldbeelhmplmcaa.Pure
open Go.RowKit Go.Proofs.Ytldbeelhmplmcaa.PFnExactLessString Go.Proofs.YtldbeelhmplmcaaW.PrintWords Go.Proofs.YtldbeelhmplmcaaW.PrintLast

theorem FnExactLessString : laws_FnExactLessString.Pure := by
  intro a0 a1 _ _
  unfold laws_FnExactLessString.f spec_LessString.f impl_LessString.f
  split
  · rfl
  · split
    · rfl
    · simp
end Go.Proofs.Ytldbeelhmplmcaa.Pure
