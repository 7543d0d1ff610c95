/- The pure statement of the law of CheckError: true for every tool and every check; no condition. -/
import Derived.Test.YtpfmhoikhnhdcaaAskFnExactCheckError
namespace Go.Proofs.Ytpfmhoikhnhdcaa.Pure
open Go.RowKit Go.Proofs.Ytpfmhoikhnhdcaa.PFnExactCheckError Go.Proofs.Ytpfmhoikhnhdcaa.AskFnExactCheckError Go.Proofs.YtpfmhoikhnhdcaaW.PrintWords Go.Proofs.YtpfmhoikhnhdcaaW.PrintLast
set_option linter.unusedVariables false
set_option linter.unusedSimpArgs false

theorem l1In_eq (a b c : Int) : spec_l1In.f a b c = some (decide (b ≤ a ∧ a ≤ c)) := by
  unfold spec_l1In.f
  by_cases h : a ≥ b
  · rw [if_pos h]
    have h' : b ≤ a := h
    simp [h']
  · rw [if_neg h]
    have h' : ¬ b ≤ a := h
    simp [h']

theorem beqd (a b : Int) : (a == b) = decide (a = b) := by by_cases h : a = b <;> simp [h]

def vTool (i kd z s : Int) : Bool := decide ((1 ≤ i ∧ i ≤ 99) ∧ (0 ≤ kd ∧ kd ≤ 2) ∧ (-50 ≤ z ∧ z ≤ 50) ∧ (900 ≤ s ∧ s ≤ 1100) ∧ (kd = 0 ∨ s = 1000))
theorem vTool_true {i kd z s : Int} (h : vTool i kd z s = true) : (1 ≤ i ∧ i ≤ 99) ∧ (0 ≤ kd ∧ kd ≤ 2) ∧ (-50 ≤ z ∧ z ≤ 50) ∧ (900 ≤ s ∧ s ≤ 1100) ∧ (kd = 0 ∨ s = 1000) := of_decide_eq_true h

theorem l3One_eq (i kd z s : Int) : spec_l3One.f i kd z s = some (vTool i kd z s) := by
  unfold spec_l3One.f spec_l3Kind.f vTool
  simp only [l1In_eq, Option.bind_some, decide_eq_true_eq, beqd]
  repeat' split
  all_goals first | exact congrArg some (decide_eq_decide.mpr (by omega)) | exact congrArg some (decide_eq_false (by omega)).symm | exact congrArg some (decide_eq_true (by omega)).symm

theorem within_eq (a b c : Int) : impl_within.f a b c = some (decide (b ≤ a ∧ a ≤ c)) := by
  unfold impl_within.f
  by_cases h : a ≥ b
  · rw [if_pos h]
    have h' : b ≤ a := h
    simp [h']
  · rw [if_neg h]
    have h' : ¬ b ≤ a := h
    simp [h']

theorem isTool_eq {k : Nat} (hk : 1 ≤ k) (i kd z s : Int) : impl_IsTool.f k i kd z s = some (vTool i kd z s) := by
  obtain ⟨k, rfl⟩ : ∃ m, k = m + 1 := ⟨k - 1, by omega⟩
  unfold impl_IsTool.f impl_isId.f impl_isKind.f vTool
  simp only [impl_IsTool.j0, within_eq, Option.bind_some, decide_eq_true_eq, beqd, Bool.not_eq_true', decide_eq_false_iff_not, if_true]
  repeat' split
  all_goals first | exact congrArg some (decide_eq_decide.mpr (by omega)) | exact congrArg some (decide_eq_false (by omega)).symm | exact congrArg some (decide_eq_true (by omega)).symm

def rdB (kd r : Int) : Bool := decide ((kd = 0 → 0 ≤ r ∧ r ≤ 1000) ∧ (kd = 1 → 0 ≤ r ∧ r ≤ 359) ∧ (kd ≠ 0 → kd ≠ 1 → -90 ≤ r ∧ r ≤ 90))

theorem l3Reading_eq (kd r : Int) : spec_l3Reading.f kd r = some (rdB kd r) := by
  unfold spec_l3Reading.f rdB
  simp only [l1In_eq, Option.bind_some]
  repeat' split
  all_goals exact congrArg some (decide_eq_decide.mpr (by omega))

theorem w64 {x : Int} (h0 : -9223372036854775808 ≤ x) (h1 : x ≤ 9223372036854775807) : wrap64 x = x := by
  unfold wrap64
  omega

theorem td {x y : Int} (h : 0 ≤ x) : Int.tdiv x y = x / y := Int.tdiv_eq_ediv_of_nonneg h
theorem tm {x y : Int} (h : 0 ≤ x) : Int.tmod x y = x % y := Int.tmod_eq_emod_of_nonneg h

/-- a divided by 1000, rounded. -/
def rnd (a : Int) : Int := if a < 0 then -((2 * -a + 1000) / 2000) else (2 * a + 1000) / 2000
theorem rnd_bound {a : Int} (h0 : -2000000000 ≤ a) (h1 : a ≤ 2000000000) : -2000001 ≤ rnd a ∧ rnd a ≤ 2000001 := by
  unfold rnd
  split <;> omega

/-- The corrected reading, of a valid tool. -/
def crP (kd z s r : Int) : Int := if kd = 0 then rnd ((r - z) * s) else if kd = 1 then (r - z + 360) % 360 else r - z
theorem mul_bound {a s : Int} (h0 : -1050 ≤ a) (h1 : a ≤ 1050) (k0 : 900 ≤ s) (k1 : s ≤ 1100) : -1155000 ≤ a * s ∧ a * s ≤ 1155000 := by
  have e1 : a * s ≤ 1050 * s := Int.mul_le_mul_of_nonneg_right h1 (by omega)
  have e2 : -1050 * s ≤ a * s := Int.mul_le_mul_of_nonneg_right h0 (by omega)
  omega
theorem rdB_wide {kd r : Int} (h : rdB kd r = true) : -90 ≤ r ∧ r ≤ 1000 := by
  have := of_decide_eq_true h
  omega

theorem l11_pos (k : Nat) (a : Int) (h0 : 0 ≤ a) (h1 : a ≤ 2000000000) : spec_l11Round.f (k + 1) a 1000 = some ((2 * a + 1000) / 2000) := by
  simp only [spec_l11Round.f]
  rw [if_neg (by omega), w64 (x := 2 * 1000) (by omega) (by omega), if_neg (by omega), w64 (x := 2 * a) (by omega) (by omega), w64 (x := 2 * a + 1000) (by omega) (by omega), td (by omega)]
  exact congrArg some (w64 (by omega) (by omega))
theorem l11_eq (k : Nat) (a : Int) (h0 : -2000000000 ≤ a) (h1 : a ≤ 2000000000) : spec_l11Round.f (k + 2) a 1000 = some (rnd a) := by
  unfold rnd
  by_cases hn : a < 0
  · rw [if_pos hn, spec_l11Round.f, if_pos hn, w64 (x := -a) (by omega) (by omega), l11_pos k (-a) (by omega) (by omega)]
    exact congrArg some (w64 (by omega) (by omega))
  · rw [if_neg hn, l11_pos (k + 1) a (by omega) h1]

theorem l3Correct_eq {k : Nat} (hk : 2 ≤ k) {i kd z s r : Int} (hv : vTool i kd z s = true) (hr : rdB kd r = true) : spec_l3Correct.f k i kd z s r = some (crP kd z s r) := by
  obtain ⟨k, rfl⟩ : ∃ m, k = m + 2 := ⟨k - 2, by omega⟩
  obtain ⟨_, h2, h3, h4, h5⟩ := vTool_true hv
  have hw := rdB_wide hr
  unfold spec_l3Correct.f crP
  have e1 : wrap64 (r - z) = r - z := w64 (by omega) (by omega)
  have hm := mul_bound (a := r - z) (s := s) (by omega) (by omega) h4.1 h4.2
  have e2 : wrap64 ((r - z) * s) = (r - z) * s := w64 (by omega) (by omega)
  have e3 : wrap64 (r - z + 360) = r - z + 360 := w64 (by omega) (by omega)
  rw [e1, e2, e3, l11_eq k _ (by omega) (by omega)]
  split
  · simp
  · split
    · rw [tm (by omega)]
    · rfl

theorem rounded_pos (k : Nat) (a : Int) (h0 : 0 ≤ a) (h1 : a ≤ 2000000000) : impl_rounded.f (k + 1) a 1000 = some ((2 * a + 1000) / 2000) := by
  simp only [impl_rounded.f]
  rw [if_neg (by omega), w64 (x := 2 * 1000) (by omega) (by omega), if_neg (by omega), w64 (x := 2 * a) (by omega) (by omega), w64 (x := 2 * a + 1000) (by omega) (by omega), td (by omega)]
  exact congrArg some (w64 (by omega) (by omega))
theorem rounded_eq (k : Nat) (a : Int) (h0 : -2000000000 ≤ a) (h1 : a ≤ 2000000000) : impl_rounded.f (k + 2) a 1000 = some (rnd a) := by
  unfold rnd
  by_cases hn : a < 0
  · rw [if_pos hn, impl_rounded.f, if_pos hn, w64 (x := -a) (by omega) (by omega), rounded_pos k (-a) (by omega) (by omega)]
    exact congrArg some (w64 (by omega) (by omega))
  · rw [if_neg hn, rounded_pos (k + 1) a (by omega) h1]

theorem isReading_eq (kd r : Int) : impl_isReading.f kd r = some (rdB kd r) := by
  unfold impl_isReading.f impl_isBearing.f rdB
  simp only [within_eq, Option.bind_some]
  repeat' split
  all_goals exact congrArg some (decide_eq_decide.mpr (by omega))

theorem modulo_eq {x : Int} (h0 : -360 ≤ x) (h1 : x ≤ 2000) : impl_modulo.f x 360 = some ((x + 360) % 360) := by
  unfold impl_modulo.f
  rw [if_neg (by omega)]
  by_cases hn : x < 0
  · have e : Int.tmod x 360 = -(-x % 360) := by
      have h := Int.neg_tmod (-x) 360
      rw [Int.neg_neg, tm (x := -x) (by omega)] at h
      exact h
    rw [e, w64 (x := -(-x % 360) + 360) (by omega) (by omega), tm (x := -(-x % 360) + 360) (by omega)]
    exact congrArg some (by omega)
  · rw [tm (x := x) (by omega), w64 (x := x % 360 + 360) (by omega) (by omega), tm (x := x % 360 + 360) (by omega)]
    exact congrArg some (by omega)
theorem correct_eq {k : Nat} (hk : 2 ≤ k) {i kd z s r : Int} (hv : vTool i kd z s = true) (hr : rdB kd r = true) : impl_correct.f k i kd z s r = some (crP kd z s r, rdB kd (crP kd z s r)) := by
  obtain ⟨k, rfl⟩ : ∃ m, k = m + 2 := ⟨k - 2, by omega⟩
  obtain ⟨_, h2, h3, h4, h5⟩ := vTool_true hv
  have hw := rdB_wide hr
  unfold impl_correct.f crP
  have e1 : wrap64 (r - z) = r - z := w64 (by omega) (by omega)
  have hm := mul_bound (a := r - z) (s := s) (by omega) (by omega) h4.1 h4.2
  have e2 : wrap64 ((r - z) * s) = (r - z) * s := w64 (by omega) (by omega)
  rw [e1, e2, rounded_eq k _ (by omega) (by omega), modulo_eq (x := r - z) (by omega) (by omega)]
  simp only [isReading_eq, Option.bind_some, hr, if_true]
  split
  · rfl
  · split <;> rfl
theorem correct_no (k : Nat) {i kd z s r : Int} (hr : rdB kd r = false) : impl_correct.f k i kd z s r = some (0, false) := by
  unfold impl_correct.f
  simp [isReading_eq, hr]

/-- What CorrectReading gives. -/
def crR (i kd z s r : Int) : Int × Bool := if (vTool i kd z s && rdB kd r && rdB kd (crP kd z s r)) = true then (crP kd z s r, true) else (0, false)
theorem specCR_eq {k : Nat} (hk : 2 ≤ k) (i kd z s r : Int) : spec_CorrectReading.f k i kd z s r = some (crR i kd z s r) := by
  unfold spec_CorrectReading.f crR
  simp only [Option.bind_some, l3One_eq, l3Reading_eq]
  cases hv : vTool i kd z s with
  | false => simp
  | true =>
    cases hr : rdB kd r with
    | false => simp
    | true =>
      simp only [if_true, l3Correct_eq hk hv hr, l3Reading_eq, Option.bind_some]
      cases hc : rdB kd (crP kd z s r) <;> simp

/-- The error of a check, of any tool. -/
def erR (i kd z s r t : Int) : Int × Bool := if (vTool i kd z s && rdB kd r && rdB kd (crP kd z s r) && rdB kd t) = true then (if kd = 1 then ((crP kd z s r - t + 539) % 360 - 179, true) else (crP kd z s r - t, true)) else (0, false)
theorem erR_bound {i kd z s r t : Int} : -1090 ≤ (erR i kd z s r t).1 ∧ (erR i kd z s r t).1 ≤ 1090 := by
  unfold erR
  split
  · rename_i h
    simp only [Bool.and_eq_true] at h
    have h1 := rdB_wide h.1.2
    have h2 := rdB_wide h.2
    split
    · simp only []; omega
    · simp only []; omega
  · simp
theorem specErr_eq {k : Nat} (hk : 2 ≤ k) (i kd z s r t : Int) : spec_l3Error.f k i kd z s r t = some (erR i kd z s r t) := by
  obtain ⟨k, rfl⟩ : ∃ m, k = m + 1 := ⟨k - 1, by omega⟩
  unfold spec_l3Error.f erR
  rw [specCR_eq hk]
  simp only [Option.bind_some, l3Reading_eq, crR]
  cases hc : (vTool i kd z s && rdB kd r && rdB kd (crP kd z s r)) with
  | false => simp [spec_l3Error.j0]
  | true =>
    simp only [if_true]
    cases ht : rdB kd t with
    | false => simp [spec_l3Error.j0]
    | true =>
      simp only [spec_l3Error.j0, Bool.not_true, Bool.false_eq_true, if_false, Bool.and_self, if_true]
      simp only [Bool.and_eq_true] at hc
      have h1 := rdB_wide hc.2
      have h2 := rdB_wide ht
      have e1 : wrap64 (crP kd z s r - t) = crP kd z s r - t := w64 (by omega) (by omega)
      rw [e1]
      by_cases hk1 : kd = 1
      · rw [if_pos hk1, if_pos hk1]
        subst hk1
        have g1 := of_decide_eq_true hc.2
        have g2 := of_decide_eq_true ht
        rw [w64 (x := crP 1 z s r - t + 360) (by omega) (by omega), w64 (x := crP 1 z s r - t + 360 + 179) (by omega) (by omega), tm (x := crP 1 z s r - t + 360 + 179) (by omega), w64 (x := (crP 1 z s r - t + 360 + 179) % 360 - 179) (by omega) (by omega), show crP 1 z s r - t + 360 + 179 = crP 1 z s r - t + 539 by omega]
      · rw [if_neg hk1, if_neg hk1]
theorem implErr_eq {k : Nat} (hk : 2 ≤ k) {i kd z s : Int} (hv : vTool i kd z s = true) (r t : Int) : impl_checkError.f k i kd z s r t = some (erR i kd z s r t) := by
  obtain ⟨k, rfl⟩ : ∃ m, k = m + 1 := ⟨k - 1, by omega⟩
  unfold impl_checkError.f erR
  rw [hv]
  cases hr : rdB kd r with
  | false => simp [correct_no (k + 1) hr, impl_checkError.j0]
  | true =>
    simp only [correct_eq hk hv hr, Option.bind_some, isReading_eq]
    cases hc : rdB kd (crP kd z s r) with
    | false => simp [impl_checkError.j0]
    | true =>
      simp only [if_true]
      cases ht : rdB kd t with
      | false => simp [impl_checkError.j0]
      | true =>
        simp only [impl_checkError.j0, Bool.not_true, Bool.false_eq_true, if_false, Bool.and_self, if_true]
        have h1 := rdB_wide hc
        have h2 := rdB_wide ht
        have e1 : wrap64 (crP kd z s r - t) = crP kd z s r - t := w64 (by omega) (by omega)
        rw [e1]
        by_cases hk1 : kd = 1
        · rw [if_pos hk1, if_pos hk1]
          subst hk1
          have g1 := of_decide_eq_true hc
          have g2 := of_decide_eq_true ht
          rw [modulo_eq (x := crP 1 z s r - t) (by omega) (by omega)]
          simp only [Option.bind_some]
          by_cases h180 : (crP 1 z s r - t + 360) % 360 > 180
          · rw [if_pos h180, w64 (x := (crP 1 z s r - t + 360) % 360 - 360) (by omega) (by omega)]
            exact congrArg some (Prod.ext (by simp only []; omega) rfl)
          · rw [if_neg h180]
            exact congrArg some (Prod.ext (by simp only []; omega) rfl)
        · rw [if_neg hk1, if_neg hk1]

theorem implCE_eq {k : Nat} (hk : 2 ≤ k) (i kd z s r t : Int) : impl_CheckError.f k i kd z s r t = some (erR i kd z s r t) := by
  unfold impl_CheckError.f
  rw [isTool_eq (by omega)]
  simp only [Option.bind_some]
  cases hv : vTool i kd z s with
  | false => simp [erR, hv]
  | true => simp [implErr_eq hk hv]

theorem FnExactCheckError : Asked := by
  intro i kd z s r t _ _ _ _ _ _
  refine ⟨2, ?_⟩
  unfold laws_FnExactCheckError.f laws_toTool.f laws_toCheck.f spec_CheckError.f
  simp only [Option.bind_some, specErr_eq (Nat.le_refl 2), implCE_eq (Nat.le_refl 2)]
  simp
end Go.Proofs.Ytpfmhoikhnhdcaa.Pure
