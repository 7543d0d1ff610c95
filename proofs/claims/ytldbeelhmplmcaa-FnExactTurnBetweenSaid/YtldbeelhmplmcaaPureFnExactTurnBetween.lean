/- The law of TurnBetween answers true for all pairs of integers; no further condition. -/
import Derived.Test.YtldbeelhmplmcaaPFnExactTurnBetweenx1
namespace Go.Proofs.Ytldbeelhmplmcaa.Pure
open Go.RowKit Go.Proofs.Ytldbeelhmplmcaa.PFnExactTurnBetween Go.Proofs.YtldbeelhmplmcaaW.PrintWords Go.Proofs.YtldbeelhmplmcaaW.PrintLast

theorem l1In_eq (a b c : Int) : spec_l1In.f a b c = some (decide (b ≤ a ∧ a ≤ c)) := by
  unfold spec_l1In.f
  by_cases h : a ≥ b
  · rw [if_pos h]
    have h' : b ≤ a := h
    simp [h']
  · rw [if_neg h]
    have h' : ¬ b ≤ a := h
    simp [h']

theorem within_eq (a b c : Int) : impl_within.f a b c = some (decide (b ≤ a ∧ a ≤ c)) := by
  unfold impl_within.f
  by_cases h : a ≥ b
  · rw [if_pos h]
    have h' : b ≤ a := h
    simp [h']
  · rw [if_neg h]
    have h' : ¬ b ≤ a := h
    simp [h']

theorem w64 {x : Int} (h0 : -9223372036854775808 ≤ x) (h1 : x ≤ 9223372036854775807) : wrap64 x = x := by
  unfold wrap64
  omega

theorem td {x y : Int} (h : 0 ≤ x) : Int.tdiv x y = x / y := Int.tdiv_eq_ediv_of_nonneg h
theorem tm {x y : Int} (h : 0 ≤ x) : Int.tmod x y = x % y := Int.tmod_eq_emod_of_nonneg h

theorem FnExactTurnBetween : laws_FnExactTurnBetween.Pure := by
  intro a b _ _
  unfold laws_FnExactTurnBetween.f spec_TurnBetween.f impl_TurnBetween.f spec_l2Bearing.f impl_isBearing.f
  rw [l1In_eq, within_eq, l1In_eq, within_eq]
  simp only [Option.bind_some]
  by_cases ca : 0 ≤ a ∧ a ≤ 359
  · by_cases cb : 0 ≤ b ∧ b ≤ 359
    · simp only [ca, cb, and_self, decide_true, if_true]
      have e1 : wrap64 (a - b) = a - b := w64 (by omega) (by omega)
      have e2 : wrap64 (a - b + 360) = a - b + 360 := w64 (by omega) (by omega)
      have e3 : wrap64 (-(a - b)) = -(a - b) := w64 (by omega) (by omega)
      have e4 : Int.tmod (a - b + 360) 360 = (a - b + 360) % 360 := tm (by omega)
      have e5 : wrap64 (360 - (a - b + 360) % 360) = 360 - (a - b + 360) % 360 := w64 (by omega) (by omega)
      have hm : 0 ≤ mx (a - b) (-(a - b)) ∧ mx (a - b) (-(a - b)) ≤ 359 ∧ (mx (a - b) (-(a - b)) = a - b ∨ mx (a - b) (-(a - b)) = -(a - b)) := by unfold mx; omega
      have e6 : wrap64 (360 - mx (a - b) (-(a - b))) = 360 - mx (a - b) (-(a - b)) := w64 (by omega) (by omega)
      unfold spec_l1Least.f impl_turn.f impl_absolute.f
      simp only [e1, e2, e3, e4, e5, Option.bind_some, e6]
      generalize mx (a - b) (-(a - b)) = m at *
      have key : mn m (360 - m) = if (a - b + 360) % 360 < 360 - (a - b + 360) % 360 then (a - b + 360) % 360 else 360 - (a - b + 360) % 360 := by
        unfold mn; omega
      rw [key]
      split <;> simp
    · simp [ca, cb]
  · simp [ca]
end Go.Proofs.Ytldbeelhmplmcaa.Pure
