/- The pure statement of the law of ReadBack: true for every tool and every number; no condition. -/
import Derived.Test.YtldbeelhmplmcaaAskFnExactReadBack
namespace Go.Proofs.Ytldbeelhmplmcaa.Pure
open Go.RowKit Go.Proofs.Ytldbeelhmplmcaa.PFnExactReadBack Go.Proofs.Ytldbeelhmplmcaa.AskFnExactReadBack Go.Proofs.YtldbeelhmplmcaaW.PrintWords Go.Proofs.YtldbeelhmplmcaaW.PrintLast
set_option linter.unusedVariables false
set_option linter.unusedSimpArgs false

theorem l1In_eq (a b c : Int) : spec_l1In.f a b c = some (decide (b ≤ a ∧ a ≤ c)) := by
  unfold spec_l1In.f
  by_cases h : a ≥ b
  · rw [if_pos h]
    have h' : b ≤ a := h
    simp [h']
  · rw [if_neg h]
    have h' : ¬ b ≤ a := h
    simp [h']

theorem beqd (a b : Int) : (a == b) = decide (a = b) := by by_cases h : a = b <;> simp [h]

def vTool (i kd z s : Int) : Bool := decide ((1 ≤ i ∧ i ≤ 99) ∧ (0 ≤ kd ∧ kd ≤ 2) ∧ (-50 ≤ z ∧ z ≤ 50) ∧ (900 ≤ s ∧ s ≤ 1100) ∧ (kd = 0 ∨ s = 1000))
theorem vTool_true {i kd z s : Int} (h : vTool i kd z s = true) : (1 ≤ i ∧ i ≤ 99) ∧ (0 ≤ kd ∧ kd ≤ 2) ∧ (-50 ≤ z ∧ z ≤ 50) ∧ (900 ≤ s ∧ s ≤ 1100) ∧ (kd = 0 ∨ s = 1000) := of_decide_eq_true h

theorem l3One_eq (i kd z s : Int) : spec_l3One.f i kd z s = some (vTool i kd z s) := by
  unfold spec_l3One.f spec_l3Kind.f vTool
  simp only [l1In_eq, Option.bind_some, decide_eq_true_eq, beqd]
  repeat' split
  all_goals first | exact congrArg some (decide_eq_decide.mpr (by omega)) | exact congrArg some (decide_eq_false (by omega)).symm | exact congrArg some (decide_eq_true (by omega)).symm

theorem within_eq (a b c : Int) : impl_within.f a b c = some (decide (b ≤ a ∧ a ≤ c)) := by
  unfold impl_within.f
  by_cases h : a ≥ b
  · rw [if_pos h]
    have h' : b ≤ a := h
    simp [h']
  · rw [if_neg h]
    have h' : ¬ b ≤ a := h
    simp [h']

theorem isTool_eq {k : Nat} (hk : 1 ≤ k) (i kd z s : Int) : impl_IsTool.f k i kd z s = some (vTool i kd z s) := by
  obtain ⟨k, rfl⟩ : ∃ m, k = m + 1 := ⟨k - 1, by omega⟩
  unfold impl_IsTool.f impl_isId.f impl_isKind.f vTool
  simp only [impl_IsTool.j0, within_eq, Option.bind_some, decide_eq_true_eq, beqd, Bool.not_eq_true', decide_eq_false_iff_not, if_true]
  repeat' split
  all_goals first | exact congrArg some (decide_eq_decide.mpr (by omega)) | exact congrArg some (decide_eq_false (by omega)).symm | exact congrArg some (decide_eq_true (by omega)).symm

def rdB (kd r : Int) : Bool := decide ((kd = 0 → 0 ≤ r ∧ r ≤ 1000) ∧ (kd = 1 → 0 ≤ r ∧ r ≤ 359) ∧ (kd ≠ 0 → kd ≠ 1 → -90 ≤ r ∧ r ≤ 90))

theorem l3Reading_eq (kd r : Int) : spec_l3Reading.f kd r = some (rdB kd r) := by
  unfold spec_l3Reading.f rdB
  simp only [l1In_eq, Option.bind_some]
  repeat' split
  all_goals exact congrArg some (decide_eq_decide.mpr (by omega))

theorem w64 {x : Int} (h0 : -9223372036854775808 ≤ x) (h1 : x ≤ 9223372036854775807) : wrap64 x = x := by
  unfold wrap64
  omega

theorem td {x y : Int} (h : 0 ≤ x) : Int.tdiv x y = x / y := Int.tdiv_eq_ediv_of_nonneg h
theorem tm {x y : Int} (h : 0 ≤ x) : Int.tmod x y = x % y := Int.tmod_eq_emod_of_nonneg h

/-- a divided by 1000, rounded. -/
def rnd (a : Int) : Int := if a < 0 then -((2 * -a + 1000) / 2000) else (2 * a + 1000) / 2000
theorem rnd_bound {a : Int} (h0 : -2000000000 ≤ a) (h1 : a ≤ 2000000000) : -2000001 ≤ rnd a ∧ rnd a ≤ 2000001 := by
  unfold rnd
  split <;> omega

/-- The corrected reading, of a valid tool. -/
def crP (kd z s r : Int) : Int := if kd = 0 then rnd ((r - z) * s) else if kd = 1 then (r - z + 360) % 360 else r - z
theorem mul_bound {a s : Int} (h0 : -1050 ≤ a) (h1 : a ≤ 1050) (k0 : 900 ≤ s) (k1 : s ≤ 1100) : -1155000 ≤ a * s ∧ a * s ≤ 1155000 := by
  have e1 : a * s ≤ 1050 * s := Int.mul_le_mul_of_nonneg_right h1 (by omega)
  have e2 : -1050 * s ≤ a * s := Int.mul_le_mul_of_nonneg_right h0 (by omega)
  omega
theorem rdB_wide {kd r : Int} (h : rdB kd r = true) : -90 ≤ r ∧ r ≤ 1000 := by
  have := of_decide_eq_true h
  omega

theorem l11_pos (k : Nat) (a : Int) (h0 : 0 ≤ a) (h1 : a ≤ 2000000000) : spec_l11Round.f (k + 1) a 1000 = some ((2 * a + 1000) / 2000) := by
  simp only [spec_l11Round.f]
  rw [if_neg (by omega), w64 (x := 2 * 1000) (by omega) (by omega), if_neg (by omega), w64 (x := 2 * a) (by omega) (by omega), w64 (x := 2 * a + 1000) (by omega) (by omega), td (by omega)]
  exact congrArg some (w64 (by omega) (by omega))
theorem l11_eq (k : Nat) (a : Int) (h0 : -2000000000 ≤ a) (h1 : a ≤ 2000000000) : spec_l11Round.f (k + 2) a 1000 = some (rnd a) := by
  unfold rnd
  by_cases hn : a < 0
  · rw [if_pos hn, spec_l11Round.f, if_pos hn, w64 (x := -a) (by omega) (by omega), l11_pos k (-a) (by omega) (by omega)]
    exact congrArg some (w64 (by omega) (by omega))
  · rw [if_neg hn, l11_pos (k + 1) a (by omega) h1]

theorem l3Correct_eq {k : Nat} (hk : 2 ≤ k) {i kd z s r : Int} (hv : vTool i kd z s = true) (hr : rdB kd r = true) : spec_l3Correct.f k i kd z s r = some (crP kd z s r) := by
  obtain ⟨k, rfl⟩ : ∃ m, k = m + 2 := ⟨k - 2, by omega⟩
  obtain ⟨_, h2, h3, h4, h5⟩ := vTool_true hv
  have hw := rdB_wide hr
  unfold spec_l3Correct.f crP
  have e1 : wrap64 (r - z) = r - z := w64 (by omega) (by omega)
  have hm := mul_bound (a := r - z) (s := s) (by omega) (by omega) h4.1 h4.2
  have e2 : wrap64 ((r - z) * s) = (r - z) * s := w64 (by omega) (by omega)
  have e3 : wrap64 (r - z + 360) = r - z + 360 := w64 (by omega) (by omega)
  rw [e1, e2, e3, l11_eq k _ (by omega) (by omega)]
  split
  · simp
  · split
    · rw [tm (by omega)]
    · rfl

theorem rounded_pos (k : Nat) (a : Int) (h0 : 0 ≤ a) (h1 : a ≤ 2000000000) : impl_rounded.f (k + 1) a 1000 = some ((2 * a + 1000) / 2000) := by
  simp only [impl_rounded.f]
  rw [if_neg (by omega), w64 (x := 2 * 1000) (by omega) (by omega), if_neg (by omega), w64 (x := 2 * a) (by omega) (by omega), w64 (x := 2 * a + 1000) (by omega) (by omega), td (by omega)]
  exact congrArg some (w64 (by omega) (by omega))
theorem rounded_eq (k : Nat) (a : Int) (h0 : -2000000000 ≤ a) (h1 : a ≤ 2000000000) : impl_rounded.f (k + 2) a 1000 = some (rnd a) := by
  unfold rnd
  by_cases hn : a < 0
  · rw [if_pos hn, impl_rounded.f, if_pos hn, w64 (x := -a) (by omega) (by omega), rounded_pos k (-a) (by omega) (by omega)]
    exact congrArg some (w64 (by omega) (by omega))
  · rw [if_neg hn, rounded_pos (k + 1) a (by omega) h1]

theorem isReading_eq (kd r : Int) : impl_isReading.f kd r = some (rdB kd r) := by
  unfold impl_isReading.f impl_isBearing.f rdB
  simp only [within_eq, Option.bind_some]
  repeat' split
  all_goals exact congrArg some (decide_eq_decide.mpr (by omega))

theorem modulo_eq {x : Int} (h0 : -360 ≤ x) (h1 : x ≤ 2000) : impl_modulo.f x 360 = some ((x + 360) % 360) := by
  unfold impl_modulo.f
  rw [if_neg (by omega)]
  by_cases hn : x < 0
  · have e : Int.tmod x 360 = -(-x % 360) := by
      have h := Int.neg_tmod (-x) 360
      rw [Int.neg_neg, tm (x := -x) (by omega)] at h
      exact h
    rw [e, w64 (x := -(-x % 360) + 360) (by omega) (by omega), tm (x := -(-x % 360) + 360) (by omega)]
    exact congrArg some (by omega)
  · rw [tm (x := x) (by omega), w64 (x := x % 360 + 360) (by omega) (by omega), tm (x := x % 360 + 360) (by omega)]
    exact congrArg some (by omega)
theorem correct_eq {k : Nat} (hk : 2 ≤ k) {i kd z s r : Int} (hv : vTool i kd z s = true) (hr : rdB kd r = true) : impl_correct.f k i kd z s r = some (crP kd z s r, rdB kd (crP kd z s r)) := by
  obtain ⟨k, rfl⟩ : ∃ m, k = m + 2 := ⟨k - 2, by omega⟩
  obtain ⟨_, h2, h3, h4, h5⟩ := vTool_true hv
  have hw := rdB_wide hr
  unfold impl_correct.f crP
  have e1 : wrap64 (r - z) = r - z := w64 (by omega) (by omega)
  have hm := mul_bound (a := r - z) (s := s) (by omega) (by omega) h4.1 h4.2
  have e2 : wrap64 ((r - z) * s) = (r - z) * s := w64 (by omega) (by omega)
  rw [e1, e2, rounded_eq k _ (by omega) (by omega), modulo_eq (x := r - z) (by omega) (by omega)]
  simp only [isReading_eq, Option.bind_some, hr, if_true]
  split
  · rfl
  · split <;> rfl
theorem correct_no (k : Nat) {i kd z s r : Int} (hr : rdB kd r = false) : impl_correct.f k i kd z s r = some (0, false) := by
  unfold impl_correct.f
  simp [isReading_eq, hr]

theorem specRB_loop {i kd z s : Int} (c : Int) (hv : vTool i kd z s = true) (hc : rdB kd c = true) (d : Nat) : ∀ (k : Nat) (r : Int), -90 ≤ r → r ≤ 1001 → 1001 - r = d → d + 2 < k →
    ∃ q, spec_ReadBack.l0 k c r i kd z s = some q ∧ impl_ReadBack.l0 k c r i kd z s = some q := by
  induction d with
  | zero =>
    intro k r h0 h1 hd hk
    obtain ⟨k, rfl⟩ : ∃ m, k = m + 1 := ⟨k - 1, by omega⟩
    refine ⟨(0, false), ?_, ?_⟩
    · simp only [spec_ReadBack.l0]; rw [if_neg (by omega)]
    · simp only [impl_ReadBack.l0]; rw [if_neg (by omega)]
  | succ d ih =>
    intro k r h0 h1 hd hk
    obtain ⟨k, rfl⟩ : ∃ m, k = m + 1 := ⟨k - 1, by omega⟩
    have hle : r ≤ 1000 := by omega
    have ew : wrap64 (r + 1) = r + 1 := w64 (by omega) (by omega)
    obtain ⟨q, e1, e2⟩ := ih k (r + 1) (by omega) (by omega) (by omega) (by omega)
    simp only [spec_ReadBack.l0, impl_ReadBack.l0]
    rw [if_pos hle, if_pos hle, l3Reading_eq, ew]
    simp only [Option.bind_some]
    cases hr : rdB kd r with
    | false =>
      simp only [correct_no k hr, Option.bind_some, Bool.false_eq_true, if_false]
      exact ⟨q, e1, e2⟩
    | true =>
      simp only [correct_eq (show 2 ≤ k by omega) hv hr, l3Correct_eq (show 2 ≤ k by omega) hv hr, Option.bind_some, if_true]
      by_cases e : crP kd z s r = c
      · refine ⟨(r, true), ?_, ?_⟩
        · rw [if_pos e]
        · rw [e, hc, if_pos rfl, if_pos rfl]
      · refine ⟨q, ?_, ?_⟩
        · rw [if_neg e]; exact e1
        · rw [if_neg e]
          split
          · exact e2
          · exact e2
theorem implRB_none {i kd z s : Int} (c : Int) (hv : vTool i kd z s = true) (hc : rdB kd c = false) (d : Nat) : ∀ (k : Nat) (r : Int), -90 ≤ r → r ≤ 1001 → 1001 - r = d → d + 2 < k →
    impl_ReadBack.l0 k c r i kd z s = some (0, false) := by
  induction d with
  | zero =>
    intro k r h0 h1 hd hk
    obtain ⟨k, rfl⟩ : ∃ m, k = m + 1 := ⟨k - 1, by omega⟩
    simp only [impl_ReadBack.l0]; rw [if_neg (by omega)]
  | succ d ih =>
    intro k r h0 h1 hd hk
    obtain ⟨k, rfl⟩ : ∃ m, k = m + 1 := ⟨k - 1, by omega⟩
    have hle : r ≤ 1000 := by omega
    have ew : wrap64 (r + 1) = r + 1 := w64 (by omega) (by omega)
    have e2 := ih k (r + 1) (by omega) (by omega) (by omega) (by omega)
    simp only [impl_ReadBack.l0]
    rw [if_pos hle, ew]
    cases hr : rdB kd r with
    | false =>
      simp only [correct_no k hr, Option.bind_some, Bool.false_eq_true, if_false]
      exact e2
    | true =>
      simp only [correct_eq (show 2 ≤ k by omega) hv hr, Option.bind_some]
      split
      · rename_i h
        rw [if_neg (fun e => by rw [e, hc] at h; cases h)]
        exact e2
      · exact e2
theorem RB_eq (i kd z s c : Int) : ∃ q, spec_ReadBack.f 1200 i kd z s c = some q ∧ impl_ReadBack.f 1200 i kd z s c = some q := by
  unfold spec_ReadBack.f impl_ReadBack.f
  simp only [Option.bind_some, l3One_eq, isTool_eq (show 1 ≤ 1200 by omega), l3Reading_eq]
  cases hv : vTool i kd z s with
  | false => exact ⟨(0, false), by simp [spec_ReadBack.j0], by simp⟩
  | true =>
    cases hc : rdB kd c with
    | false => exact ⟨(0, false), by simp [spec_ReadBack.j0], by simpa using implRB_none c hv hc 1091 1200 (-90) (by omega) (by omega) (by omega) (by omega)⟩
    | true =>
      obtain ⟨q, e1, _⟩ := specRB_loop c hv hc 1091 1199 (-90) (by omega) (by omega) (by omega) (by omega)
      obtain ⟨q', e1', e2⟩ := specRB_loop c hv hc 1091 1200 (-90) (by omega) (by omega) (by omega) (by omega)
      have em := (spec_ReadBack.mono_l 1199).2 c (-90) i kd z s q e1
      rw [e1'] at em
      obtain rfl := Option.some.inj em
      refine ⟨q', ?_, by simpa using e2⟩
      simp only [if_true, Bool.not_true, spec_ReadBack.j0, Bool.false_eq_true, if_false]
      exact e1

theorem FnExactReadBack : Asked := by
  intro a b c d r _ _ _ _ _
  obtain ⟨q, e1, e2⟩ := RB_eq a b c d r
  refine ⟨1200, ?_⟩
  unfold laws_FnExactReadBack.f laws_toTool.f
  simp only [Option.bind_some, e1, e2]
  simp
end Go.Proofs.Ytldbeelhmplmcaa.Pure
