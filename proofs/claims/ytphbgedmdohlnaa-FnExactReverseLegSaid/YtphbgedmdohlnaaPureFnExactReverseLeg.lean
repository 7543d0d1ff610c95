/- The pure statement of the law of ReverseLeg: true for every five numbers; no condition. -/
import Derived.Test.YtphbgedmdohlnaaAskFnExactReverseLeg
namespace Go.Proofs.Ytphbgedmdohlnaa.Pure
open Go.RowKit Go.Proofs.Ytphbgedmdohlnaa.PFnExactReverseLeg Go.Proofs.Ytphbgedmdohlnaa.AskFnExactReverseLeg Go.Proofs.YtphbgedmdohlnaaW.PrintWords Go.Proofs.YtphbgedmdohlnaaW.PrintLast
set_option linter.unusedVariables false
set_option linter.unusedSimpArgs false

theorem l1In_eq (a b c : Int) : spec_l1In.f a b c = some (decide (b ≤ a ∧ a ≤ c)) := by
  unfold spec_l1In.f
  by_cases h : a ≥ b
  · rw [if_pos h]
    have h' : b ≤ a := h
    simp [h']
  · rw [if_neg h]
    have h' : ¬ b ≤ a := h
    simp [h']

theorem beqd (a b : Int) : (a == b) = decide (a = b) := by by_cases h : a = b <;> simp [h]

def vLeg (f t tp c s : Int) : Bool := decide ((0 ≤ f ∧ f ≤ 7) ∧ (0 ≤ t ∧ t ≤ 7) ∧ f ≠ t ∧ (1 ≤ tp ∧ tp ≤ 500) ∧ (0 ≤ c ∧ c ≤ 359) ∧ (-90 ≤ s ∧ s ≤ 90))

theorem l4Leg_eq (f t tp c s : Int) : spec_l4Leg.f f t tp c s = some (vLeg f t tp c s) := by
  unfold spec_l4Leg.f spec_l4Station.f spec_l2Bearing.f vLeg
  simp only [l1In_eq, Option.bind_some, decide_eq_true_eq]
  repeat' split
  all_goals first | exact congrArg some (decide_eq_decide.mpr (by omega)) | exact congrArg some (decide_eq_false (by omega)).symm

theorem within_eq (a b c : Int) : impl_within.f a b c = some (decide (b ≤ a ∧ a ≤ c)) := by
  unfold impl_within.f
  by_cases h : a ≥ b
  · rw [if_pos h]
    have h' : b ≤ a := h
    simp [h']
  · rw [if_neg h]
    have h' : ¬ b ≤ a := h
    simp [h']

theorem isLeg_eq (f t tp c s : Int) : impl_IsLeg.f f t tp c s = some (vLeg f t tp c s) := by
  unfold impl_IsLeg.f impl_isStation.f impl_isBearing.f vLeg
  simp only [within_eq, Option.bind_some, decide_eq_true_eq]
  repeat' split
  all_goals first | exact congrArg some (decide_eq_decide.mpr (by omega)) | exact congrArg some (decide_eq_false (by omega)).symm

theorem FnExactReverseLeg : Asked := by
  intro a b c d e _ _ _ _ _
  unfold laws_FnExactReverseLeg.f laws_toLeg.f spec_ReverseLeg.f impl_ReverseLeg.f spec_l4Reverse.f impl_Leg_reverse.f impl_back.f
  simp only [Option.bind_some, l4Leg_eq, isLeg_eq]
  cases vLeg a b c d e <;> simp [laws_eqLeg.f]
end Go.Proofs.Ytphbgedmdohlnaa.Pure
