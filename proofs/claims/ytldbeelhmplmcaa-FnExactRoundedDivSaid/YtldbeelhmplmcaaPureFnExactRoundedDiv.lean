/- The law of RoundedDiv answers true for all pairs of integers; no further condition. -/
import Derived.Test.YtldbeelhmplmcaaPFnExactRoundedDivx1
namespace Go.Proofs.Ytldbeelhmplmcaa.Pure
open Go.RowKit Go.Proofs.Ytldbeelhmplmcaa.PFnExactRoundedDiv Go.Proofs.YtldbeelhmplmcaaW.PrintWords Go.Proofs.YtldbeelhmplmcaaW.PrintLast

theorem l1In_eq (a b c : Int) : spec_l1In.f a b c = some (decide (b ≤ a ∧ a ≤ c)) := by
  unfold spec_l1In.f
  by_cases h : a ≥ b
  · rw [if_pos h]
    have h' : b ≤ a := h
    simp [h']
  · rw [if_neg h]
    have h' : ¬ b ≤ a := h
    simp [h']

theorem within_eq (a b c : Int) : impl_within.f a b c = some (decide (b ≤ a ∧ a ≤ c)) := by
  unfold impl_within.f
  by_cases h : a ≥ b
  · rw [if_pos h]
    have h' : b ≤ a := h
    simp [h']
  · rw [if_neg h]
    have h' : ¬ b ≤ a := h
    simp [h']

theorem w64 {x : Int} (h0 : -9223372036854775808 ≤ x) (h1 : x ≤ 9223372036854775807) : wrap64 x = x := by
  unfold wrap64
  omega

theorem FnExactRoundedDiv : laws_FnExactRoundedDiv.Pure := by
  intro a b _ _
  refine ⟨2, ?_⟩
  unfold laws_FnExactRoundedDiv.f spec_RoundedDiv.f impl_RoundedDiv.f
  rw [l1In_eq, within_eq, l1In_eq, within_eq]
  simp only [Option.bind_some]
  by_cases ca : -1000000000 ≤ a ∧ a ≤ 1000000000
  · by_cases cb : 1 ≤ b ∧ b ≤ 1000000
    · simp only [ca, cb, and_self, decide_true, if_true]
      have e2b : wrap64 (2 * b) = 2 * b := w64 (by omega) (by omega)
      by_cases hn : a < 0
      · have e1 : wrap64 (-2 * a) = 2 * -a := (w64 (by omega) (by omega)).trans (by omega)
        have e3 : wrap64 (-a) = -a := w64 (by omega) (by omega)
        have e4 : wrap64 (2 * -a) = 2 * -a := w64 (by omega) (by omega)
        have hz : ¬ 2 * b = 0 := by omega
        have hn' : ¬ -a < 0 := by omega
        simp only [spec_l2Div.f, impl_rounded.f]
        rw [if_pos hn, if_pos hn, e2b, e3, if_neg hz, if_neg hn', if_neg hz, e1, e4]
        simp
      · have hz : ¬ 2 * b = 0 := by omega
        simp only [spec_l2Div.f, impl_rounded.f]
        rw [if_neg hn, if_neg hn, e2b, if_neg hz]
        simp
    · simp [ca, cb]
  · simp [ca]
end Go.Proofs.Ytldbeelhmplmcaa.Pure
