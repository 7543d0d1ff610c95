/- The pure statement of the law of IsTool: true for every four numbers; no condition. -/
import Derived.Test.YtldbeelhmplmcaaAskFnExactIsTool
namespace Go.Proofs.Ytldbeelhmplmcaa.Pure
open Go.RowKit Go.Proofs.Ytldbeelhmplmcaa.PFnExactIsTool Go.Proofs.Ytldbeelhmplmcaa.AskFnExactIsTool Go.Proofs.YtldbeelhmplmcaaW.PrintWords Go.Proofs.YtldbeelhmplmcaaW.PrintLast

theorem l1In_eq (a b c : Int) : spec_l1In.f a b c = some (decide (b ≤ a ∧ a ≤ c)) := by
  unfold spec_l1In.f
  by_cases h : a ≥ b
  · rw [if_pos h]
    have h' : b ≤ a := h
    simp [h']
  · rw [if_neg h]
    have h' : ¬ b ≤ a := h
    simp [h']

theorem beqd (a b : Int) : (a == b) = decide (a = b) := by by_cases h : a = b <;> simp [h]

def vTool (i kd z s : Int) : Bool := decide ((1 ≤ i ∧ i ≤ 99) ∧ (0 ≤ kd ∧ kd ≤ 2) ∧ (-50 ≤ z ∧ z ≤ 50) ∧ (900 ≤ s ∧ s ≤ 1100) ∧ (kd = 0 ∨ s = 1000))
theorem vTool_true {i kd z s : Int} (h : vTool i kd z s = true) : (1 ≤ i ∧ i ≤ 99) ∧ (0 ≤ kd ∧ kd ≤ 2) ∧ (-50 ≤ z ∧ z ≤ 50) ∧ (900 ≤ s ∧ s ≤ 1100) ∧ (kd = 0 ∨ s = 1000) := of_decide_eq_true h

theorem l3One_eq (i kd z s : Int) : spec_l3One.f i kd z s = some (vTool i kd z s) := by
  unfold spec_l3One.f spec_l3Kind.f vTool
  simp only [l1In_eq, Option.bind_some, decide_eq_true_eq, beqd]
  repeat' split
  all_goals first | exact congrArg some (decide_eq_decide.mpr (by omega)) | exact congrArg some (decide_eq_false (by omega)).symm | exact congrArg some (decide_eq_true (by omega)).symm

theorem within_eq (a b c : Int) : impl_within.f a b c = some (decide (b ≤ a ∧ a ≤ c)) := by
  unfold impl_within.f
  by_cases h : a ≥ b
  · rw [if_pos h]
    have h' : b ≤ a := h
    simp [h']
  · rw [if_neg h]
    have h' : ¬ b ≤ a := h
    simp [h']

theorem isTool_eq {k : Nat} (hk : 1 ≤ k) (i kd z s : Int) : impl_IsTool.f k i kd z s = some (vTool i kd z s) := by
  obtain ⟨k, rfl⟩ : ∃ m, k = m + 1 := ⟨k - 1, by omega⟩
  unfold impl_IsTool.f impl_isId.f impl_isKind.f vTool
  simp only [impl_IsTool.j0, within_eq, Option.bind_some, decide_eq_true_eq, beqd, Bool.not_eq_true', decide_eq_false_iff_not, if_true]
  repeat' split
  all_goals first | exact congrArg some (decide_eq_decide.mpr (by omega)) | exact congrArg some (decide_eq_false (by omega)).symm | exact congrArg some (decide_eq_true (by omega)).symm

theorem FnExactIsTool : Asked := by
  intro a b c d _ _ _ _
  refine ⟨1, ?_⟩
  unfold laws_FnExactIsTool.f laws_toTool.f spec_IsTool.f
  simp only [Option.bind_some, l3One_eq, isTool_eq (Nat.le_refl 1)]
  simp
end Go.Proofs.Ytldbeelhmplmcaa.Pure
