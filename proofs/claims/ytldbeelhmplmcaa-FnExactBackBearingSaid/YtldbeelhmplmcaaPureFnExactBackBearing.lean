/- The law of BackBearing answers true for all integers; no further condition. -/
import Derived.Test.YtldbeelhmplmcaaPFnExactBackBearingx1
namespace Go.Proofs.Ytldbeelhmplmcaa.Pure
open Go.RowKit Go.Proofs.Ytldbeelhmplmcaa.PFnExactBackBearing Go.Proofs.YtldbeelhmplmcaaW.PrintWords Go.Proofs.YtldbeelhmplmcaaW.PrintLast

theorem l1In_eq (a b c : Int) : spec_l1In.f a b c = some (decide (b ≤ a ∧ a ≤ c)) := by
  unfold spec_l1In.f
  by_cases h : a ≥ b
  · rw [if_pos h]
    have h' : b ≤ a := h
    simp [h']
  · rw [if_neg h]
    have h' : ¬ b ≤ a := h
    simp [h']

theorem within_eq (a b c : Int) : impl_within.f a b c = some (decide (b ≤ a ∧ a ≤ c)) := by
  unfold impl_within.f
  by_cases h : a ≥ b
  · rw [if_pos h]
    have h' : b ≤ a := h
    simp [h']
  · rw [if_neg h]
    have h' : ¬ b ≤ a := h
    simp [h']

theorem FnExactBackBearing : laws_FnExactBackBearing.Pure := by
  intro a0 _
  unfold laws_FnExactBackBearing.f spec_BackBearing.f impl_BackBearing.f spec_l2Bearing.f impl_isBearing.f impl_back.f
  rw [l1In_eq, within_eq]
  by_cases c : 0 ≤ a0 ∧ a0 ≤ 359 <;> simp [c]
end Go.Proofs.Ytldbeelhmplmcaa.Pure
