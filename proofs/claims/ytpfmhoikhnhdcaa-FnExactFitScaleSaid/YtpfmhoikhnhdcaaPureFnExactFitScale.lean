/- The pure statement of the law of FitScale: true for every tool and every list of checks; no condition but the slice's reach. -/
import Derived.Test.YtpfmhoikhnhdcaaAskFnExactFitScale
namespace Go.Proofs.Ytpfmhoikhnhdcaa.Pure
open Go.RowKit Go.Proofs.Ytpfmhoikhnhdcaa.PFnExactFitScale Go.Proofs.Ytpfmhoikhnhdcaa.AskFnExactFitScale Go.Proofs.YtpfmhoikhnhdcaaW.PrintWords Go.Proofs.YtpfmhoikhnhdcaaW.PrintLast
set_option linter.unusedVariables false
set_option linter.unusedSimpArgs false

theorem l1In_eq (a b c : Int) : spec_l1In.f a b c = some (decide (b ≤ a ∧ a ≤ c)) := by
  unfold spec_l1In.f
  by_cases h : a ≥ b
  · rw [if_pos h]
    have h' : b ≤ a := h
    simp [h']
  · rw [if_neg h]
    have h' : ¬ b ≤ a := h
    simp [h']

theorem beqd (a b : Int) : (a == b) = decide (a = b) := by by_cases h : a = b <;> simp [h]

def vTool (i kd z s : Int) : Bool := decide ((1 ≤ i ∧ i ≤ 99) ∧ (0 ≤ kd ∧ kd ≤ 2) ∧ (-50 ≤ z ∧ z ≤ 50) ∧ (900 ≤ s ∧ s ≤ 1100) ∧ (kd = 0 ∨ s = 1000))
theorem vTool_true {i kd z s : Int} (h : vTool i kd z s = true) : (1 ≤ i ∧ i ≤ 99) ∧ (0 ≤ kd ∧ kd ≤ 2) ∧ (-50 ≤ z ∧ z ≤ 50) ∧ (900 ≤ s ∧ s ≤ 1100) ∧ (kd = 0 ∨ s = 1000) := of_decide_eq_true h

theorem l3One_eq (i kd z s : Int) : spec_l3One.f i kd z s = some (vTool i kd z s) := by
  unfold spec_l3One.f spec_l3Kind.f vTool
  simp only [l1In_eq, Option.bind_some, decide_eq_true_eq, beqd]
  repeat' split
  all_goals first | exact congrArg some (decide_eq_decide.mpr (by omega)) | exact congrArg some (decide_eq_false (by omega)).symm | exact congrArg some (decide_eq_true (by omega)).symm

theorem within_eq (a b c : Int) : impl_within.f a b c = some (decide (b ≤ a ∧ a ≤ c)) := by
  unfold impl_within.f
  by_cases h : a ≥ b
  · rw [if_pos h]
    have h' : b ≤ a := h
    simp [h']
  · rw [if_neg h]
    have h' : ¬ b ≤ a := h
    simp [h']

theorem isTool_eq {k : Nat} (hk : 1 ≤ k) (i kd z s : Int) : impl_IsTool.f k i kd z s = some (vTool i kd z s) := by
  obtain ⟨k, rfl⟩ : ∃ m, k = m + 1 := ⟨k - 1, by omega⟩
  unfold impl_IsTool.f impl_isId.f impl_isKind.f vTool
  simp only [impl_IsTool.j0, within_eq, Option.bind_some, decide_eq_true_eq, beqd, Bool.not_eq_true', decide_eq_false_iff_not, if_true]
  repeat' split
  all_goals first | exact congrArg some (decide_eq_decide.mpr (by omega)) | exact congrArg some (decide_eq_false (by omega)).symm | exact congrArg some (decide_eq_true (by omega)).symm

def rdB (kd r : Int) : Bool := decide ((kd = 0 → 0 ≤ r ∧ r ≤ 1000) ∧ (kd = 1 → 0 ≤ r ∧ r ≤ 359) ∧ (kd ≠ 0 → kd ≠ 1 → -90 ≤ r ∧ r ≤ 90))

theorem l3Reading_eq (kd r : Int) : spec_l3Reading.f kd r = some (rdB kd r) := by
  unfold spec_l3Reading.f rdB
  simp only [l1In_eq, Option.bind_some]
  repeat' split
  all_goals exact congrArg some (decide_eq_decide.mpr (by omega))

theorem w64 {x : Int} (h0 : -9223372036854775808 ≤ x) (h1 : x ≤ 9223372036854775807) : wrap64 x = x := by
  unfold wrap64
  omega

theorem td {x y : Int} (h : 0 ≤ x) : Int.tdiv x y = x / y := Int.tdiv_eq_ediv_of_nonneg h
theorem tm {x y : Int} (h : 0 ≤ x) : Int.tmod x y = x % y := Int.tmod_eq_emod_of_nonneg h

/-- a divided by 1000, rounded. -/
def rnd (a : Int) : Int := if a < 0 then -((2 * -a + 1000) / 2000) else (2 * a + 1000) / 2000
theorem rnd_bound {a : Int} (h0 : -2000000000 ≤ a) (h1 : a ≤ 2000000000) : -2000001 ≤ rnd a ∧ rnd a ≤ 2000001 := by
  unfold rnd
  split <;> omega

/-- The corrected reading, of a valid tool. -/
def crP (kd z s r : Int) : Int := if kd = 0 then rnd ((r - z) * s) else if kd = 1 then (r - z + 360) % 360 else r - z
theorem mul_bound {a s : Int} (h0 : -1050 ≤ a) (h1 : a ≤ 1050) (k0 : 900 ≤ s) (k1 : s ≤ 1100) : -1155000 ≤ a * s ∧ a * s ≤ 1155000 := by
  have e1 : a * s ≤ 1050 * s := Int.mul_le_mul_of_nonneg_right h1 (by omega)
  have e2 : -1050 * s ≤ a * s := Int.mul_le_mul_of_nonneg_right h0 (by omega)
  omega
theorem rdB_wide {kd r : Int} (h : rdB kd r = true) : -90 ≤ r ∧ r ≤ 1000 := by
  have := of_decide_eq_true h
  omega

theorem l11_pos (k : Nat) (a : Int) (h0 : 0 ≤ a) (h1 : a ≤ 2000000000) : spec_l11Round.f (k + 1) a 1000 = some ((2 * a + 1000) / 2000) := by
  simp only [spec_l11Round.f]
  rw [if_neg (by omega), w64 (x := 2 * 1000) (by omega) (by omega), if_neg (by omega), w64 (x := 2 * a) (by omega) (by omega), w64 (x := 2 * a + 1000) (by omega) (by omega), td (by omega)]
  exact congrArg some (w64 (by omega) (by omega))
theorem l11_eq (k : Nat) (a : Int) (h0 : -2000000000 ≤ a) (h1 : a ≤ 2000000000) : spec_l11Round.f (k + 2) a 1000 = some (rnd a) := by
  unfold rnd
  by_cases hn : a < 0
  · rw [if_pos hn, spec_l11Round.f, if_pos hn, w64 (x := -a) (by omega) (by omega), l11_pos k (-a) (by omega) (by omega)]
    exact congrArg some (w64 (by omega) (by omega))
  · rw [if_neg hn, l11_pos (k + 1) a (by omega) h1]

theorem l3Correct_eq {k : Nat} (hk : 2 ≤ k) {i kd z s r : Int} (hv : vTool i kd z s = true) (hr : rdB kd r = true) : spec_l3Correct.f k i kd z s r = some (crP kd z s r) := by
  obtain ⟨k, rfl⟩ : ∃ m, k = m + 2 := ⟨k - 2, by omega⟩
  obtain ⟨_, h2, h3, h4, h5⟩ := vTool_true hv
  have hw := rdB_wide hr
  unfold spec_l3Correct.f crP
  have e1 : wrap64 (r - z) = r - z := w64 (by omega) (by omega)
  have hm := mul_bound (a := r - z) (s := s) (by omega) (by omega) h4.1 h4.2
  have e2 : wrap64 ((r - z) * s) = (r - z) * s := w64 (by omega) (by omega)
  have e3 : wrap64 (r - z + 360) = r - z + 360 := w64 (by omega) (by omega)
  rw [e1, e2, e3, l11_eq k _ (by omega) (by omega)]
  split
  · simp
  · split
    · rw [tm (by omega)]
    · rfl

theorem rounded_pos (k : Nat) (a : Int) (h0 : 0 ≤ a) (h1 : a ≤ 2000000000) : impl_rounded.f (k + 1) a 1000 = some ((2 * a + 1000) / 2000) := by
  simp only [impl_rounded.f]
  rw [if_neg (by omega), w64 (x := 2 * 1000) (by omega) (by omega), if_neg (by omega), w64 (x := 2 * a) (by omega) (by omega), w64 (x := 2 * a + 1000) (by omega) (by omega), td (by omega)]
  exact congrArg some (w64 (by omega) (by omega))
theorem rounded_eq (k : Nat) (a : Int) (h0 : -2000000000 ≤ a) (h1 : a ≤ 2000000000) : impl_rounded.f (k + 2) a 1000 = some (rnd a) := by
  unfold rnd
  by_cases hn : a < 0
  · rw [if_pos hn, impl_rounded.f, if_pos hn, w64 (x := -a) (by omega) (by omega), rounded_pos k (-a) (by omega) (by omega)]
    exact congrArg some (w64 (by omega) (by omega))
  · rw [if_neg hn, rounded_pos (k + 1) a (by omega) h1]

theorem isReading_eq (kd r : Int) : impl_isReading.f kd r = some (rdB kd r) := by
  unfold impl_isReading.f impl_isBearing.f rdB
  simp only [within_eq, Option.bind_some]
  repeat' split
  all_goals exact congrArg some (decide_eq_decide.mpr (by omega))

theorem modulo_eq {x : Int} (h0 : -360 ≤ x) (h1 : x ≤ 2000) : impl_modulo.f x 360 = some ((x + 360) % 360) := by
  unfold impl_modulo.f
  rw [if_neg (by omega)]
  by_cases hn : x < 0
  · have e : Int.tmod x 360 = -(-x % 360) := by
      have h := Int.neg_tmod (-x) 360
      rw [Int.neg_neg, tm (x := -x) (by omega)] at h
      exact h
    rw [e, w64 (x := -(-x % 360) + 360) (by omega) (by omega), tm (x := -(-x % 360) + 360) (by omega)]
    exact congrArg some (by omega)
  · rw [tm (x := x) (by omega), w64 (x := x % 360 + 360) (by omega) (by omega), tm (x := x % 360 + 360) (by omega)]
    exact congrArg some (by omega)
theorem correct_eq {k : Nat} (hk : 2 ≤ k) {i kd z s r : Int} (hv : vTool i kd z s = true) (hr : rdB kd r = true) : impl_correct.f k i kd z s r = some (crP kd z s r, rdB kd (crP kd z s r)) := by
  obtain ⟨k, rfl⟩ : ∃ m, k = m + 2 := ⟨k - 2, by omega⟩
  obtain ⟨_, h2, h3, h4, h5⟩ := vTool_true hv
  have hw := rdB_wide hr
  unfold impl_correct.f crP
  have e1 : wrap64 (r - z) = r - z := w64 (by omega) (by omega)
  have hm := mul_bound (a := r - z) (s := s) (by omega) (by omega) h4.1 h4.2
  have e2 : wrap64 ((r - z) * s) = (r - z) * s := w64 (by omega) (by omega)
  rw [e1, e2, rounded_eq k _ (by omega) (by omega), modulo_eq (x := r - z) (by omega) (by omega)]
  simp only [isReading_eq, Option.bind_some, hr, if_true]
  split
  · rfl
  · split <;> rfl
theorem correct_no (k : Nat) {i kd z s r : Int} (hr : rdB kd r = false) : impl_correct.f k i kd z s r = some (0, false) := by
  unfold impl_correct.f
  simp [isReading_eq, hr]

/-- What CorrectReading gives. -/
def crR (i kd z s r : Int) : Int × Bool := if (vTool i kd z s && rdB kd r && rdB kd (crP kd z s r)) = true then (crP kd z s r, true) else (0, false)
theorem specCR_eq {k : Nat} (hk : 2 ≤ k) (i kd z s r : Int) : spec_CorrectReading.f k i kd z s r = some (crR i kd z s r) := by
  unfold spec_CorrectReading.f crR
  simp only [Option.bind_some, l3One_eq, l3Reading_eq]
  cases hv : vTool i kd z s with
  | false => simp
  | true =>
    cases hr : rdB kd r with
    | false => simp
    | true =>
      simp only [if_true, l3Correct_eq hk hv hr, l3Reading_eq, Option.bind_some]
      cases hc : rdB kd (crP kd z s r) <;> simp

/-- The error of a check, of any tool. -/
def erR (i kd z s r t : Int) : Int × Bool := if (vTool i kd z s && rdB kd r && rdB kd (crP kd z s r) && rdB kd t) = true then (if kd = 1 then ((crP kd z s r - t + 539) % 360 - 179, true) else (crP kd z s r - t, true)) else (0, false)
theorem erR_bound {i kd z s r t : Int} : -1090 ≤ (erR i kd z s r t).1 ∧ (erR i kd z s r t).1 ≤ 1090 := by
  unfold erR
  split
  · rename_i h
    simp only [Bool.and_eq_true] at h
    have h1 := rdB_wide h.1.2
    have h2 := rdB_wide h.2
    split
    · simp only []; omega
    · simp only []; omega
  · simp
theorem specErr_eq {k : Nat} (hk : 2 ≤ k) (i kd z s r t : Int) : spec_l3Error.f k i kd z s r t = some (erR i kd z s r t) := by
  obtain ⟨k, rfl⟩ : ∃ m, k = m + 1 := ⟨k - 1, by omega⟩
  unfold spec_l3Error.f erR
  rw [specCR_eq hk]
  simp only [Option.bind_some, l3Reading_eq, crR]
  cases hc : (vTool i kd z s && rdB kd r && rdB kd (crP kd z s r)) with
  | false => simp [spec_l3Error.j0]
  | true =>
    simp only [if_true]
    cases ht : rdB kd t with
    | false => simp [spec_l3Error.j0]
    | true =>
      simp only [spec_l3Error.j0, Bool.not_true, Bool.false_eq_true, if_false, Bool.and_self, if_true]
      simp only [Bool.and_eq_true] at hc
      have h1 := rdB_wide hc.2
      have h2 := rdB_wide ht
      have e1 : wrap64 (crP kd z s r - t) = crP kd z s r - t := w64 (by omega) (by omega)
      rw [e1]
      by_cases hk1 : kd = 1
      · rw [if_pos hk1, if_pos hk1]
        subst hk1
        have g1 := of_decide_eq_true hc.2
        have g2 := of_decide_eq_true ht
        rw [w64 (x := crP 1 z s r - t + 360) (by omega) (by omega), w64 (x := crP 1 z s r - t + 360 + 179) (by omega) (by omega), tm (x := crP 1 z s r - t + 360 + 179) (by omega), w64 (x := (crP 1 z s r - t + 360 + 179) % 360 - 179) (by omega) (by omega), show crP 1 z s r - t + 360 + 179 = crP 1 z s r - t + 539 by omega]
      · rw [if_neg hk1, if_neg hk1]
theorem implErr_eq {k : Nat} (hk : 2 ≤ k) {i kd z s : Int} (hv : vTool i kd z s = true) (r t : Int) : impl_checkError.f k i kd z s r t = some (erR i kd z s r t) := by
  obtain ⟨k, rfl⟩ : ∃ m, k = m + 1 := ⟨k - 1, by omega⟩
  unfold impl_checkError.f erR
  rw [hv]
  cases hr : rdB kd r with
  | false => simp [correct_no (k + 1) hr, impl_checkError.j0]
  | true =>
    simp only [correct_eq hk hv hr, Option.bind_some, isReading_eq]
    cases hc : rdB kd (crP kd z s r) with
    | false => simp [impl_checkError.j0]
    | true =>
      simp only [if_true]
      cases ht : rdB kd t with
      | false => simp [impl_checkError.j0]
      | true =>
        simp only [impl_checkError.j0, Bool.not_true, Bool.false_eq_true, if_false, Bool.and_self, if_true]
        have h1 := rdB_wide hc
        have h2 := rdB_wide ht
        have e1 : wrap64 (crP kd z s r - t) = crP kd z s r - t := w64 (by omega) (by omega)
        rw [e1]
        by_cases hk1 : kd = 1
        · rw [if_pos hk1, if_pos hk1]
          subst hk1
          have g1 := of_decide_eq_true hc
          have g2 := of_decide_eq_true ht
          rw [modulo_eq (x := crP 1 z s r - t) (by omega) (by omega)]
          simp only [Option.bind_some]
          by_cases h180 : (crP 1 z s r - t + 360) % 360 > 180
          · rw [if_pos h180, w64 (x := (crP 1 z s r - t + 360) % 360 - 360) (by omega) (by omega)]
            exact congrArg some (Prod.ext (by simp only []; omega) rfl)
          · rw [if_neg h180]
            exact congrArg some (Prod.ext (by simp only []; omega) rfl)
        · rw [if_neg hk1, if_neg hk1]

/-- What the checks of a tool must meet, from place n on. -/
def ckFrom (kd : Int) (l : List S46) (n : Nat) : Prop := ∀ j, n ≤ j → j < l.length → rdB kd (l.getD j z46).f0 = true ∧ rdB kd (l.getD j z46).f1 = true
theorem checks_loops (i kd z s : Int) (l : List S46) (hl : l.length ≤ 140737488351232) (d : Nat) : ∀ (k n : Nat), n + d = l.length → d + 1 < k →
    ∃ b : Bool, spec_l3Checks.l0 k l (n : Int) i kd z s = some b ∧ impl_areChecks.l0 k l l (l.length : Int) (n : Int) i kd z s = some b ∧ (b = true ↔ ckFrom kd l n ∧ vTool i kd z s = true ∧ 1 ≤ l.length ∧ l.length ≤ 10) := by
  induction d with
  | zero =>
    intro k n hd hk
    obtain ⟨k, rfl⟩ : ∃ m, k = m + 1 := ⟨k - 1, by omega⟩
    refine ⟨vTool i kd z s && decide (1 ≤ (l.length : Int) ∧ (l.length : Int) ≤ 10), ?_, ?_, ?_⟩
    · simp only [spec_l3Checks.l0]; rw [if_neg (by omega), l3One_eq, l1In_eq]; cases vTool i kd z s <;> simp
    · simp only [impl_areChecks.l0]; rw [if_neg (by omega), isTool_eq (by omega), within_eq]; cases vTool i kd z s <;> simp
    · rw [Bool.and_eq_true, decide_eq_true_eq]
      exact ⟨fun h => ⟨fun j h1 h2 => by omega, h.1, by omega, by omega⟩, fun h => ⟨h.2.1, by omega⟩⟩
  | succ d ih =>
    intro k n hd hk
    obtain ⟨k, rfl⟩ : ∃ m, k = m + 1 := ⟨k - 1, by omega⟩
    have ew : wrap64 ((n : Int) + 1) = ((n + 1 : Nat) : Int) := (w64 (by omega) (by omega)).trans (by omega)
    have er : rd_T46 l (n : Int) = l.getD n z46 := by simp [rd_T46]
    obtain ⟨b, e1, e2, hb⟩ := ih k (n + 1) (by omega) (by omega)
    have c1 : (n : Int) < (l.length : Int) := by omega
    have c2 : 0 ≤ (n : Int) := by omega
    simp only [spec_l3Checks.l0, impl_areChecks.l0, if_pos c1, if_pos c2, er, l3Reading_eq, isReading_eq, ew, Option.bind_some]
    cases h0 : rdB kd (l.getD n z46).f0 with
    | false =>
      refine ⟨false, by simp, by simp, ?_⟩
      simp only [Bool.false_eq_true, false_iff]
      intro h
      have := (h.1 n (Nat.le_refl _) (by omega)).1
      rw [h0] at this
      cases this
    | true =>
      cases h1 : rdB kd (l.getD n z46).f1 with
      | false =>
        refine ⟨false, by simp, by simp, ?_⟩
        simp only [Bool.false_eq_true, false_iff]
        intro h
        have := (h.1 n (Nat.le_refl _) (by omega)).2
        rw [h1] at this
        cases this
      | true =>
        refine ⟨b, by simpa using e1, by simpa using e2, hb.trans (and_congr_left fun _ => ⟨fun g j g1 g2 => ?_, fun g j g1 g2 => g j (by omega) g2⟩)⟩
        rcases Nat.eq_or_lt_of_le g1 with rfl | hlt
        · exact ⟨h0, h1⟩
        · exact g j hlt g2
theorem checks_eq (i kd z s : Int) (l : List S46) (hl : l.length ≤ 140737488351232) : ∃ b : Bool, (∀ k, l.length + 1 < k → spec_l3Checks.f k i kd z s l = some b ∧ impl_areChecks.f k i kd z s l = some b) ∧ (b = true ↔ ckFrom kd l 0 ∧ vTool i kd z s = true ∧ 1 ≤ l.length ∧ l.length ≤ 10) := by
  obtain ⟨b, _, _, hb⟩ := checks_loops i kd z s l hl l.length (l.length + 2) 0 (by omega) (by omega)
  refine ⟨b, fun k hk => ?_, hb⟩
  obtain ⟨b', e1, e2, hb'⟩ := checks_loops i kd z s l hl l.length k 0 (by omega) hk
  have : b' = b := by rw [Bool.eq_iff_iff]; exact hb'.trans hb.symm
  subst this
  exact ⟨e1, e2⟩

def ab (x : Int) : Int := if x < 0 then -x else x
theorem absolute_eq {x : Int} (h0 : -1090 ≤ x) (h1 : x ≤ 1090) : impl_absolute.f x = some (ab x) := by
  unfold impl_absolute.f ab mx
  rw [w64 (by omega) (by omega)]
  exact congrArg some (by split <;> split <;> omega)
theorem most_eq {x : Int} (h0 : -1090 ≤ x) (h1 : x ≤ 1090) : spec_l1Most.f x (wrap64 (-x)) = some (ab x) := by
  unfold spec_l1Most.f ab
  rw [w64 (by omega) (by omega)]
  split <;> split <;> first | rfl | exact congrArg some (by omega)
/-- The worst check, from place n on, with the best so far. -/
def wf (e : S46 → Int × Bool) : List S46 → Int → Int → Int → Option (Int × Int)
  | [], _, b, m => some (b, m)
  | x :: xs, n, b, m => if (e x).2 = true then (if ab (e x).1 > m then wf e xs (n + 1) n (ab (e x).1) else wf e xs (n + 1) b m) else none
def erOf (i kd z s : Int) (x : S46) : Int × Bool := erR i kd z s x.f0 x.f1
theorem specWorst_loop (i kd z s : Int) (l : List S46) (hl : l.length ≤ 140737488351232) : ∀ (xs : List S46) (k n : Nat) (b m : Int), l.drop n = xs → xs.length + 2 < k →
    spec_l3Worst.l0 k l b m (n : Int) i kd z s = some ((wf (erOf i kd z s) xs n b m).getD (-1, 0))
  | [], k, n, b, m, hx, hk => by
    obtain ⟨k, rfl⟩ : ∃ m, k = m + 1 := ⟨k - 1, by omega⟩
    have hn : l.length ≤ n := List.drop_eq_nil_iff.mp hx
    simp only [spec_l3Worst.l0, wf, Option.getD_some]
    rw [if_neg (by omega)]
  | x :: xs, k, n, b, m, hx, hk => by
    obtain ⟨k, rfl⟩ : ∃ m, k = m + 1 := ⟨k - 1, by omega⟩
    have hn : n < l.length := by
      have := congrArg List.length hx
      simp at this
      omega
    have hd := List.drop_eq_getElem_cons hn
    rw [hx] at hd
    obtain ⟨h1, h2⟩ := List.cons.inj hd
    have ew : wrap64 ((n : Int) + 1) = ((n + 1 : Nat) : Int) := (w64 (by omega) (by omega)).trans (by omega)
    have er : rd_T46 l (n : Int) = x := by simp [rd_T46, hn, h1]
    have c1 : (n : Int) < (l.length : Int) := by omega
    have c2 : 0 ≤ (n : Int) := by omega
    have hb : -1090 ≤ (erOf i kd z s x).1 ∧ (erOf i kd z s x).1 ≤ 1090 := erR_bound
    have hk' : xs.length + 2 < k := by simp at hk; omega
    have es : spec_l3Error.f k i kd z s x.f0 x.f1 = some (erOf i kd z s x) := specErr_eq (by omega) i kd z s x.f0 x.f1
    have ih1 := specWorst_loop i kd z s l hl xs k (n + 1) (n : Int) (ab (erOf i kd z s x).1) h2.symm hk'
    have ih2 := specWorst_loop i kd z s l hl xs k (n + 1) b m h2.symm hk'
    simp only [spec_l3Worst.l0, if_pos c1, if_pos c2, er, es, ew, Option.bind_some, wf]
    by_cases h : (erOf i kd z s x).2 = true
    case neg => simp only [if_neg h, Option.getD_none]
    case pos =>
      simp only [if_pos h, most_eq hb.1 hb.2, Option.bind_some]
      rw [show ((n : Int) + 1) = ((n + 1 : Nat) : Int) by omega]
      by_cases c : ab (erOf i kd z s x).1 > m
      · simp only [if_pos c]; exact ih1
      · simp only [if_neg c]; exact ih2
theorem implWorst_loop {i kd z s : Int} (hv : vTool i kd z s = true) (l : List S46) (hl : l.length ≤ 140737488351232) : ∀ (xs : List S46) (k n : Nat) (b m : Int), l.drop n = xs → xs.length + 2 < k →
    impl_worst.l0 k b m l (l.length : Int) (n : Int) i kd z s = some (match wf (erOf i kd z s) xs n b m with | some p => (p.1, p.2, true) | none => (0, 0, false))
  | [], k, n, b, m, hx, hk => by
    obtain ⟨k, rfl⟩ : ∃ m, k = m + 1 := ⟨k - 1, by omega⟩
    have hn : l.length ≤ n := List.drop_eq_nil_iff.mp hx
    simp only [impl_worst.l0, wf]
    rw [if_neg (by omega)]
  | x :: xs, k, n, b, m, hx, hk => by
    obtain ⟨k, rfl⟩ : ∃ m, k = m + 1 := ⟨k - 1, by omega⟩
    have hn : n < l.length := by
      have := congrArg List.length hx
      simp at this
      omega
    have hd := List.drop_eq_getElem_cons hn
    rw [hx] at hd
    obtain ⟨h1, h2⟩ := List.cons.inj hd
    have ew : wrap64 ((n : Int) + 1) = ((n + 1 : Nat) : Int) := (w64 (by omega) (by omega)).trans (by omega)
    have er : rd_T46 l (n : Int) = x := by simp [rd_T46, hn, h1]
    have c1 : (n : Int) < (l.length : Int) := by omega
    have c2 : 0 ≤ (n : Int) := by omega
    have hb : -1090 ≤ (erOf i kd z s x).1 ∧ (erOf i kd z s x).1 ≤ 1090 := erR_bound
    have hk' : xs.length + 2 < k := by simp at hk; omega
    have es : impl_checkError.f k i kd z s x.f0 x.f1 = some (erOf i kd z s x) := implErr_eq (by omega) hv x.f0 x.f1
    have ih1 := implWorst_loop hv l hl xs k (n + 1) (n : Int) (ab (erOf i kd z s x).1) h2.symm hk'
    have ih2 := implWorst_loop hv l hl xs k (n + 1) b m h2.symm hk'
    simp only [impl_worst.l0, if_pos c1, if_pos c2, er, es, ew, Option.bind_some, wf]
    by_cases h : (erOf i kd z s x).2 = true
    case neg => simp only [if_neg h]
    case pos =>
      simp only [if_pos h, absolute_eq hb.1 hb.2, Option.bind_some]
      rw [show ((n : Int) + 1) = ((n + 1 : Nat) : Int) by omega]
      by_cases c : ab (erOf i kd z s x).1 > m
      · simp only [if_pos c]; exact ih1
      · simp only [if_neg c]; exact ih2
/-- What the worst check is: its place and its distance. -/
def wo (i kd z s : Int) (l : List S46) : Option (Int × Int) := wf (erOf i kd z s) l 0 0 (-1)
theorem ab_nonneg (x : Int) : 0 ≤ ab x := by unfold ab; split <;> omega
theorem wf_first (e : S46 → Int × Bool) (x : S46) (xs : List S46) (b b' : Int) : wf e (x :: xs) 0 b (-1) = wf e (x :: xs) 0 b' (-1) := by
  have := ab_nonneg (e x).1
  simp only [wf]
  split
  · rw [if_pos (by omega), if_pos (by omega)]
  · rfl
theorem wf_nonneg (e : S46 → Int × Bool) : ∀ (xs : List S46) (n b m : Int), 0 ≤ n → 0 ≤ b → ∀ p, wf e xs n b m = some p → 0 ≤ p.1 ∧ m ≤ p.2
  | [], n, b, m, hn, hb, p, h => by
    simp only [wf, Option.some.injEq] at h
    subst h
    exact ⟨hb, Int.le_refl _⟩
  | x :: xs, n, b, m, hn, hb, p, h => by
    simp only [wf] at h
    split at h
    · split at h
      · have := wf_nonneg e xs (n + 1) n _ (by omega) hn p h
        exact ⟨this.1, by omega⟩
      · exact wf_nonneg e xs (n + 1) b m (by omega) hb p h
    · cases h
theorem wo_nonneg {i kd z s : Int} {l : List S46} (hl : l ≠ []) {p : Int × Int} (h : wo i kd z s l = some p) : 0 ≤ p.1 ∧ 0 ≤ p.2 := by
  unfold wo at h
  cases l with
  | nil => exact absurd rfl hl
  | cons x xs =>
    have h0 := ab_nonneg (erOf i kd z s x).1
    simp only [wf] at h
    split at h
    · rw [if_pos (by omega)] at h
      have := wf_nonneg _ xs (0 + 1) 0 _ (by omega) (by omega) p h
      exact ⟨this.1, by omega⟩
    · cases h
theorem specWorst_eq (i kd z s : Int) (l : List S46) (hn : l ≠ []) (hl : l.length ≤ 140737488351232) {k : Nat} (hk : l.length + 2 < k) : spec_l3Worst.f k i kd z s l = some ((wo i kd z s l).getD (-1, 0)) := by
  unfold spec_l3Worst.f wo
  have h := specWorst_loop i kd z s l hl l k 0 (-1) (-1) rfl hk
  cases l with
  | nil => exact absurd rfl hn
  | cons x xs =>
    rw [← wf_first (erOf i kd z s) x xs (-1) 0]
    exact h
theorem implWorst_eq {i kd z s : Int} (hv : vTool i kd z s = true) (l : List S46) (hl : l.length ≤ 140737488351232) {k : Nat} (hk : l.length + 2 < k) : impl_worst.f k i kd z s l = some (match wo i kd z s l with | some p => (p.1, p.2, true) | none => (0, 0, false)) := by
  unfold impl_worst.f wo
  exact implWorst_loop hv l hl l k 0 0 (-1) rfl hk

/-- The tool with the smallest greatest distance, of a list, with the best so far. -/
def fitL (W : S44 → Option (Int × Int)) : List S44 → S44 → Int → S44 × Int
  | [], b, m => (b, m)
  | x :: xs, b, m => match W x with
    | some p => if m < 0 ∨ p.2 < m then fitL W xs x p.2 else fitL W xs b m
    | none => fitL W xs b m
def fitOut (q : S44 × Int) : Int × Int × Int × Int × Bool := (q.1.f0, q.1.f1, q.1.f2, q.1.f3, decide (q.2 ≥ 0))
def woOf (l : List S46) (x : S44) : Option (Int × Int) := wo x.f0 x.f1 x.f2 x.f3 l
theorem fit_loop (l : List S46) (hl : l.length ≤ 140737488351232) (ts : List S44) (ht : ts.length ≤ 140737488351232) (hv : ∀ x ∈ ts, vTool x.f0 x.f1 x.f2 x.f3 = true) : ∀ (xs : List S44) (k n : Nat) (b : S44) (m : Int), ts.drop n = xs → xs.length + l.length + 3 < k →
    impl_fit.l0 k l m ts (ts.length : Int) (n : Int) b.f0 b.f1 b.f2 b.f3 = some (fitOut (fitL (woOf l) xs b m))
  | [], k, n, b, m, hx, hk => by
    obtain ⟨k, rfl⟩ : ∃ m, k = m + 1 := ⟨k - 1, by omega⟩
    have hn : ts.length ≤ n := List.drop_eq_nil_iff.mp hx
    simp only [impl_fit.l0, fitL, fitOut]
    rw [if_neg (by omega)]
    rfl
  | x :: xs, k, n, b, m, hx, hk => by
    obtain ⟨k, rfl⟩ : ∃ m, k = m + 1 := ⟨k - 1, by omega⟩
    have hn : n < ts.length := by
      have := congrArg List.length hx
      simp at this
      omega
    have hd := List.drop_eq_getElem_cons hn
    rw [hx] at hd
    obtain ⟨h1, h2⟩ := List.cons.inj hd
    have hvx : vTool x.f0 x.f1 x.f2 x.f3 = true := hv x (by rw [h1]; exact List.getElem_mem _)
    have ew : wrap64 ((n : Int) + 1) = ((n + 1 : Nat) : Int) := (w64 (by omega) (by omega)).trans (by omega)
    have er : rd_T44 ts (n : Int) = x := by simp [rd_T44, hn, h1]
    have c1 : (n : Int) < (ts.length : Int) := by omega
    have c2 : 0 ≤ (n : Int) := by omega
    have hk' : xs.length + l.length + 3 < k := by simp at hk; omega
    simp only [impl_fit.l0, if_pos c1, if_pos c2, er, implWorst_eq hvx l hl (show l.length + 2 < k by omega), ew, Option.bind_some, fitL, woOf]
    cases hw : wo x.f0 x.f1 x.f2 x.f3 l with
    | none => simpa using fit_loop l hl ts ht hv xs k (n + 1) b m h2.symm hk'
    | some p =>
      simp only [if_true]
      by_cases c : m < 0 ∨ p.2 < m
      · rw [if_pos c]
        have ih := fit_loop l hl ts ht hv xs k (n + 1) x p.2 h2.symm hk'
        rcases Decidable.em (m < 0) with hm | hm
        · rw [if_pos hm]; exact ih
        · rw [if_neg hm, if_pos (by omega)]; exact ih
      · rw [if_neg c, if_neg (by omega), if_neg (by omega)]
        exact fit_loop l hl ts ht hv xs k (n + 1) b m h2.symm hk'
theorem fit_eq (l : List S46) (hl : l.length ≤ 140737488351232) (ts : List S44) (ht : ts.length ≤ 140737488351232) (hv : ∀ x ∈ ts, vTool x.f0 x.f1 x.f2 x.f3 = true) {k : Nat} (hk : ts.length + l.length + 3 < k) :
    impl_fit.f k ts l = some (fitOut (fitL (woOf l) ts ⟨0, 0, 0, 0⟩ (-1))) := by
  unfold impl_fit.f
  exact fit_loop l hl ts ht hv ts k 0 ⟨0, 0, 0, 0⟩ (-1) rfl hk
/-- What fits is in the list, and no other does better. -/
theorem fitL_best (W : S44 → Option (Int × Int)) (hW : ∀ x p, W x = some p → 0 ≤ p.2) : ∀ (xs : List S44) (b : S44) (m : Int), (m < 0 ∨ ∃ p, W b = some p ∧ p.2 = m) →
    ((fitL W xs b m).2 < 0 ∨ ∃ p, W (fitL W xs b m).1 = some p ∧ p.2 = (fitL W xs b m).2) ∧ ((fitL W xs b m).2 = m ∨ (fitL W xs b m).1 ∈ xs) ∧ (0 ≤ m → (fitL W xs b m).2 ≤ m ∧ 0 ≤ (fitL W xs b m).2) ∧
      ∀ x ∈ xs, ∀ p, W x = some p → 0 ≤ (fitL W xs b m).2 ∧ (fitL W xs b m).2 ≤ p.2
  | [], b, m, h => ⟨h, .inl rfl, fun h0 => ⟨Int.le_refl _, h0⟩, fun x hx => by simp at hx⟩
  | y :: ys, b, m, h => by
    simp only [fitL]
    cases hw : W y with
    | none =>
      obtain ⟨i1, i2, i3, i4⟩ := fitL_best W hW ys b m h
      refine ⟨i1, i2.imp id (List.mem_cons_of_mem _), i3, fun x hx p hp => ?_⟩
      rcases List.mem_cons.mp hx with rfl | hx
      · rw [hw] at hp; cases hp
      · exact i4 x hx p hp
    | some q =>
      have hq := hW y q hw
      simp only []
      by_cases c : m < 0 ∨ q.2 < m
      · rw [if_pos c]
        obtain ⟨i1, i2, i3, i4⟩ := fitL_best W hW ys y q.2 (.inr ⟨q, hw, rfl⟩)
        have i3' := i3 hq
        have hle : 0 ≤ m → (fitL W ys y q.2).2 ≤ m := by
          have h1 := i3'.1
          clear i1 i2 i3 i4 h
          intro h0
          rcases c with c | c <;> omega
        refine ⟨i1, .inr ?_, fun h0 => ⟨hle h0, i3'.2⟩, fun x hx p hp => ?_⟩
        · rcases i2 with e | e
          · by_cases hin : (fitL W ys y q.2).1 ∈ ys
            · exact List.mem_cons_of_mem _ hin
            · have := fitL_stay W ys y q.2
              rcases this with e2 | e2
              · rw [e2]; exact List.mem_cons_self
              · exact absurd e2 hin
          · exact List.mem_cons_of_mem _ e
        · rcases List.mem_cons.mp hx with rfl | hx
          · rw [hw] at hp; cases hp; exact ⟨i3'.2, i3'.1⟩
          · exact i4 x hx p hp
      · rw [if_neg c]
        obtain ⟨i1, i2, i3, i4⟩ := fitL_best W hW ys b m h
        refine ⟨i1, i2.imp id (List.mem_cons_of_mem _), i3, fun x hx p hp => ?_⟩
        rcases List.mem_cons.mp hx with rfl | hx
        · rw [hw] at hp; cases hp
          have hm : 0 ≤ m ∧ m ≤ q.2 := by
            clear i1 i2 i3 i4 h
            constructor
            · rcases Int.lt_or_le m 0 with g | g
              · exact absurd (.inl g) c
              · exact g
            · rcases Int.lt_or_le q.2 m with g | g
              · exact absurd (.inr g) c
              · exact g
          have := i3 hm.1
          exact ⟨this.2, Int.le_trans this.1 hm.2⟩
        · exact i4 x hx p hp
where fitL_stay (W : S44 → Option (Int × Int)) : ∀ (xs : List S44) (b : S44) (m : Int), (fitL W xs b m).1 = b ∨ (fitL W xs b m).1 ∈ xs
  | [], b, m => .inl rfl
  | y :: ys, b, m => by
    simp only [fitL]
    split
    · split
      · rcases fitL_stay W ys y _ with e | e
        · exact .inr (by rw [e]; exact List.mem_cons_self)
        · exact .inr (List.mem_cons_of_mem _ e)
      · exact (fitL_stay W ys b m).imp id (List.mem_cons_of_mem _)
    · exact (fitL_stay W ys b m).imp id (List.mem_cons_of_mem _)

/-- The tapes with the scales from s on. -/
def sts (i z : Int) : Nat → Int → List S44
  | 0, _ => []
  | n + 1, s => ⟨i, 0, z, s⟩ :: sts i z n (s + 1)
theorem sts_len (i z : Int) : ∀ n s, (sts i z n s).length = n
  | 0, _ => rfl
  | n + 1, s => by simp [sts, sts_len i z n]
theorem sts_mem (i z : Int) : ∀ n s x, x ∈ sts i z n s ↔ ∃ y, s ≤ y ∧ y < s + n ∧ x = ⟨i, 0, z, y⟩
  | 0, s, x => by
    simp only [sts, List.not_mem_nil, false_iff]
    rintro ⟨y, h0, h1, _⟩
    omega
  | n + 1, s, x => by
    simp only [sts, List.mem_cons, sts_mem i z n]
    constructor
    · rintro (rfl | ⟨y, h0, h1, rfl⟩)
      · exact ⟨s, by omega, by omega, rfl⟩
      · exact ⟨y, by omega, by omega, rfl⟩
    · rintro ⟨y, h0, h1, rfl⟩
      by_cases e : y = s
      · subst e; exact .inl rfl
      · exact .inr ⟨y, by omega, by omega, rfl⟩
theorem specFS_loop (i kd z s0 : Int) (l : List S46) (hn : l ≠ []) (hl : l.length ≤ 140737488351232) : ∀ (n k : Nat) (s m : Int) (b : S44), s + n = 1101 → 900 ≤ s → n + l.length + 3 < k →
    spec_FitScale.l0 k l m s i kd z s0 b.f0 b.f1 b.f2 b.f3 = some (fitOut (fitL (woOf l) (sts i z n s) b m))
  | 0, k, s, m, b, hz, h0, hk => by
    obtain ⟨k, rfl⟩ : ∃ m, k = m + 1 := ⟨k - 1, by omega⟩
    simp only [spec_FitScale.l0, sts, fitL, fitOut]
    rw [if_neg (by omega)]
    try rfl
  | n + 1, k, s, m, b, hz, h0, hk => by
    obtain ⟨k, rfl⟩ : ∃ m, k = m + 1 := ⟨k - 1, by omega⟩
    have ew : wrap64 (s + 1) = s + 1 := w64 (by omega) (by omega)
    have hle : s ≤ 1100 := by omega
    simp only [spec_FitScale.l0, if_pos hle, specWorst_eq i 0 z s l hn hl (show l.length + 2 < k by omega), ew, Option.bind_some, sts, fitL, woOf]
    cases hw : wo i 0 z s l with
    | none =>
      simp only [Option.getD_none]
      rw [if_neg (by omega)]
      exact specFS_loop i kd z s0 l hn hl n k (s + 1) m b (by omega) (by omega) (by omega)
    | some p =>
      have hp := wo_nonneg hn hw
      simp only [Option.getD_some]
      rw [if_pos (show p.1 ≥ 0 from hp.1)]
      have ih := specFS_loop i kd z s0 l hn hl n k (s + 1) p.2 ⟨i, 0, z, s⟩ (by omega) (by omega) (by omega)
      by_cases c : m < 0 ∨ p.2 < m
      · rw [if_pos c]
        rcases Decidable.em (m < 0) with hm | hm
        · rw [if_pos hm]; exact ih
        · rw [if_neg hm, if_pos (by omega)]; exact ih
      · rw [if_neg c, if_neg (by omega), if_neg (by omega)]
        exact specFS_loop i kd z s0 l hn hl n k (s + 1) m b (by omega) (by omega) (by omega)
theorem implFS_loop (i z : Int) (l : List S46) : ∀ (n k : Nat) (s s0 : Int) (o : List S44), s + n = 1101 → 900 ≤ s → o.length + n ≤ 4096 →
    impl_FitScale.l0 (k + n + 1) l o s i 0 z s0 = (impl_fit.f k (o ++ sts i z n s) l).bind fun t => some (t.1, t.2.1, t.2.2.1, t.2.2.2.1, t.2.2.2.2)
  | 0, k, s, s0, o, hz, h0, ho => by
    simp only [impl_FitScale.l0, sts, Nat.add_zero]
    rw [if_neg (by omega), List.append_nil]
  | n + 1, k, s, s0, o, hz, h0, ho => by
    have ew : wrap64 (s + 1) = s + 1 := w64 (by omega) (by omega)
    have hle : s ≤ 1100 := by omega
    have hle2 : o.length < 4398046511104 := by omega
    have ih := implFS_loop i z l n k (s + 1) s (o ++ [⟨i, 0, z, s⟩]) (by omega) (by omega) (by simp; omega)
    rw [show k + (n + 1) + 1 = (k + n + 1) + 1 by omega]
    rw [impl_FitScale.l0, if_pos hle, if_pos hle2, ew, ih, List.append_assoc]
    rfl
theorem FS_eq (i kd z s : Int) (l : List S46) (hl : l.length ≤ 2097152) : ∃ q, (∀ k, l.length + 500 < k → spec_FitScale.f k i kd z s l = some q ∧ impl_FitScale.f k i kd z s l = some q) ∧
    ((ckFrom kd l 0 ∧ vTool i kd z s = true ∧ 1 ≤ l.length ∧ l.length ≤ 10 ∧ kd = 0 ∧ q = fitOut (fitL (woOf l) (sts i z 201 900) ⟨0, 0, 0, 0⟩ (-1))) ∨ (¬ (ckFrom kd l 0 ∧ vTool i kd z s = true ∧ 1 ≤ l.length ∧ l.length ≤ 10 ∧ kd = 0) ∧ q = (0, 0, 0, 0, false))) := by
  obtain ⟨b, hb, hiff⟩ := checks_eq i kd z s l (by omega)
  unfold spec_FitScale.f impl_FitScale.f
  cases b with
  | false =>
    refine ⟨(0, 0, 0, 0, false), fun k hk => ?_, .inr ⟨fun h => ?_, rfl⟩⟩
    · obtain ⟨k, rfl⟩ : ∃ m, k = m + 1 := ⟨k - 1, by omega⟩
      obtain ⟨e1, e2⟩ := hb (k + 1) (by omega)
      rw [e1, e2]
      simp [spec_FitScale.j0, impl_FitScale.j0]
    · have := hiff.mpr ⟨h.1, h.2.1, h.2.2.1, h.2.2.2.1⟩
      cases this
  | true =>
    obtain ⟨hck, hv, h1, h10⟩ := hiff.mp rfl
    have hn : l ≠ [] := by intro h; subst h; simp at h1
    by_cases hkd : kd = 0
    · subst hkd
      refine ⟨fitOut (fitL (woOf l) (sts i z 201 900) ⟨0, 0, 0, 0⟩ (-1)), fun k hk => ?_, .inl ⟨hck, hv, h1, h10, rfl, rfl⟩⟩
      obtain ⟨k, rfl⟩ : ∃ m, k = m + 1 := ⟨k - 1, by omega⟩
      obtain ⟨e1, e2⟩ := hb (k + 1) (by omega)
      rw [e1, e2]
      simp only [Option.bind_some, if_true, bne_self_eq_false, spec_FitScale.j0, impl_FitScale.j0, Bool.false_eq_true, if_false]
      refine ⟨specFS_loop i 0 z s l hn (by omega) 201 k 900 (-1) ⟨0, 0, 0, 0⟩ (by omega) (by omega) (by omega), ?_⟩
      obtain ⟨k, rfl⟩ : ∃ m, k = m + 201 + 1 := ⟨k - 202, by omega⟩
      rw [implFS_loop i z l 201 k 900 s [] (by omega) (by omega) (by simp), List.nil_append, fit_eq l (by omega) _ (by rw [sts_len]; omega) ?_ (by rw [sts_len]; omega)]
      · rfl
      · intro x hx
        obtain ⟨y, y0, y1, rfl⟩ := (sts_mem i z 201 900 x).mp hx
        have := vTool_true hv
        exact decide_eq_true ⟨by simp only []; omega, by simp only []; omega, by simp only []; omega, by simp only []; omega, .inl rfl⟩
    · refine ⟨(0, 0, 0, 0, false), fun k hk => ?_, .inr ⟨fun h => hkd h.2.2.2.2, rfl⟩⟩
      obtain ⟨k, rfl⟩ : ∃ m, k = m + 1 := ⟨k - 1, by omega⟩
      obtain ⟨e1, e2⟩ := hb (k + 1) (by omega)
      rw [e1, e2]
      simp [spec_FitScale.j0, impl_FitScale.j0, hkd]

theorem set_step {α : Type} (m : List α) (z : α) (i n : Nat) (hm : m.length = n) (hi : i < n) :
    (m.take i ++ (List.replicate n z).drop i).set i (m[i]'(by omega)) = m.take (i + 1) ++ (List.replicate n z).drop (i + 1) := by
  have e1 : (List.replicate n z).drop i = z :: (List.replicate n z).drop (i + 1) := by
    rw [List.drop_eq_getElem_cons (by simpa using hi)]
    simp
  have e2 : (m.take i).length = i := by simp; omega
  rw [List.set_append_right _ _ (by omega), e2, Nat.sub_self, e1, List.set_cons_zero, List.take_succ_eq_append_getElem (by omega), List.append_assoc]
  rfl

/-- The conversion of a struct, field by field. -/
def cv41 (x : S41) : S46 := ⟨x.f0, x.f1⟩
theorem laws_toCheckS_loop (l : List S41) (hl : l.length ≤ 140737488351232) (d : Nat) : ∀ (k i : Nat), i + d = l.length → d < k →
    laws_toCheckS.l0 k l ((l.map cv41).take i ++ (List.replicate l.length z46).drop i) (i : Int) = some (l.map cv41) := by
  induction d with
  | zero =>
    intro k i hd hk
    obtain ⟨k, rfl⟩ : ∃ m, k = m + 1 := ⟨k - 1, by omega⟩
    simp only [laws_toCheckS.l0]
    rw [if_neg (by omega)]
    have e : i = l.length := by omega
    subst e
    rw [List.take_of_length_le (by simp), List.drop_of_length_le (by simp), List.append_nil]
  | succ d ih =>
    intro k i hd hk
    obtain ⟨k, rfl⟩ : ∃ m, k = m + 1 := ⟨k - 1, by omega⟩
    have hi : i < l.length := by omega
    have hlen : ((l.map cv41).take i ++ (List.replicate l.length z46).drop i).length = l.length := by simp; omega
    have ew : wrap64 ((i : Int) + 1) = ((i + 1 : Nat) : Int) := (w64 (by omega) (by omega)).trans (by omega)
    have er : rd_T41 l (i : Int) = l[i] := by simp [rd_T41, hi]
    simp only [laws_toCheckS.l0, laws_toCheck.f, Option.bind_some]
    rw [if_pos (by omega), if_pos (by omega), if_pos (by rw [hlen]; omega), ew, er]
    have es : (((l.map cv41).take i ++ (List.replicate l.length z46).drop i).set (i : Int).toNat (cv41 l[i])) = (l.map cv41).take (i + 1) ++ (List.replicate l.length z46).drop (i + 1) := by
      have := set_step (l.map cv41) z46 i l.length (by simp) hi
      simpa using this
    have h := ih k (i + 1) (by omega) (by omega)
    rw [← es] at h
    exact h
theorem laws_toCheckS_eq (l : List S41) (hl : l.length ≤ 2097152) {k : Nat} (hk : l.length < k) : laws_toCheckS.f k l = some (l.map cv41) := by
  unfold laws_toCheckS.f
  rw [if_pos (by omega), if_pos (by rw [Int.toNat_natCast]; omega)]
  have h := laws_toCheckS_loop l (by omega) l.length k 0 (by omega) hk
  simpa using h

theorem laws_eqCheck_same (x : S46) : laws_eqCheck.f x.f0 x.f1 x.f0 x.f1 = some true := by unfold laws_eqCheck.f; simp
theorem laws_eqCheckS_loop (l : List S46) (hl : l.length ≤ 140737488351232) (d : Nat) : ∀ (k i : Nat), i + d = l.length → d < k → laws_eqCheckS.l0 k l l (i : Int) = some true := by
  induction d with
  | zero =>
    intro k i hd hk
    obtain ⟨k, rfl⟩ : ∃ m, k = m + 1 := ⟨k - 1, by omega⟩
    simp only [laws_eqCheckS.l0]
    rw [if_neg (by omega)]
  | succ d ih =>
    intro k i hd hk
    obtain ⟨k, rfl⟩ : ∃ m, k = m + 1 := ⟨k - 1, by omega⟩
    have ew : wrap64 ((i : Int) + 1) = ((i + 1 : Nat) : Int) := (w64 (by omega) (by omega)).trans (by omega)
    simp only [laws_eqCheckS.l0, laws_eqCheck_same, Option.bind_some, if_true]
    rw [if_pos (by omega), if_pos (by omega), if_pos (by omega), ew]
    exact ih k (i + 1) (by omega) (by omega)
theorem laws_eqCheckS_eq (l : List S46) (hl : l.length ≤ 140737488351232) {k : Nat} (hk : l.length < k) : laws_eqCheckS.f k l l = some true := by
  unfold laws_eqCheckS.f
  rw [if_pos rfl]
  exact laws_eqCheckS_loop l hl l.length k 0 (by omega) hk

theorem FnExactFitScale : Asked := by
  intro i kd z s l _ _ _ _ hl _
  by_cases hs : wrap64 (1048576 - (l.length : Int)) < 0
  · refine ⟨0, ?_⟩
    unfold laws_FnExactFitScale.f laws_szCheckS.f
    rw [if_pos hs]
    simp
  · rw [w64 (by omega) (by omega)] at hs
    have ht : ∀ k, l.length < k → laws_toCheckS.f k l = some (l.map cv41) := fun k hk => laws_toCheckS_eq l (by omega) hk
    have hlen : (l.map cv41).length = l.length := by simp
    obtain ⟨⟨q0, q1, q2, q3, q4⟩, h, _⟩ := FS_eq i kd z s (l.map cv41) (by rw [hlen]; omega)
    rw [hlen] at h
    obtain ⟨e1, e2⟩ := h (l.length + 512) (by omega)
    refine ⟨l.length + 512, ?_⟩
    unfold laws_FnExactFitScale.f laws_szCheckS.f laws_toTool.f
    rw [w64 (by omega) (by omega), if_neg hs]
    simp only [Option.bind_some]
    rw [if_neg hs, ht _ (by omega)]
    have et : laws_eqTool.f q0 q1 q2 q3 q0 q1 q2 q3 = some true := by unfold laws_eqTool.f; simp
    simp only [Option.bind_some, e1, e2, et, if_true]
    simp only [laws_FnExactFitScale.j0, bne_self_eq_false, Bool.false_eq_true, if_false, ht _ (show l.length < l.length + 511 by omega), laws_eqCheckS_eq (l.map cv41) (by rw [hlen]; omega) (show (l.map cv41).length < l.length + 511 by rw [hlen]; omega), Option.bind_some, if_true]
end Go.Proofs.Ytpfmhoikhnhdcaa.Pure
