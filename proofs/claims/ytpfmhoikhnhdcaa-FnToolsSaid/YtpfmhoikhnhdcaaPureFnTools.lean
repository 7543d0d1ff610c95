/- The pure statement of the law FnTools: true for every string of bytes; no condition but the slice's reach. -/
import Derived.Test.YtpfmhoikhnhdcaaAskFnTools
namespace Go.Proofs.Ytpfmhoikhnhdcaa.Pure
open Go.RowKit Go.Proofs.Ytpfmhoikhnhdcaa.XFnTools Go.Proofs.Ytpfmhoikhnhdcaa.AskFnTools Go.Proofs.YtpfmhoikhnhdcaaW.PrintWords Go.Proofs.YtpfmhoikhnhdcaaW.PrintLast
set_option linter.unusedVariables false
set_option linter.unusedSimpArgs false

theorem l1In_eq (a b c : Int) : spec_l1In.f a b c = some (decide (b ≤ a ∧ a ≤ c)) := by
  unfold spec_l1In.f
  by_cases h : a ≥ b
  · rw [if_pos h]
    have h' : b ≤ a := h
    simp [h']
  · rw [if_neg h]
    have h' : ¬ b ≤ a := h
    simp [h']

theorem beqd (a b : Int) : (a == b) = decide (a = b) := by by_cases h : a = b <;> simp [h]

def vTool (i kd z s : Int) : Bool := decide ((1 ≤ i ∧ i ≤ 99) ∧ (0 ≤ kd ∧ kd ≤ 2) ∧ (-50 ≤ z ∧ z ≤ 50) ∧ (900 ≤ s ∧ s ≤ 1100) ∧ (kd = 0 ∨ s = 1000))
theorem vTool_true {i kd z s : Int} (h : vTool i kd z s = true) : (1 ≤ i ∧ i ≤ 99) ∧ (0 ≤ kd ∧ kd ≤ 2) ∧ (-50 ≤ z ∧ z ≤ 50) ∧ (900 ≤ s ∧ s ≤ 1100) ∧ (kd = 0 ∨ s = 1000) := of_decide_eq_true h

theorem l3One_eq (i kd z s : Int) : spec_l3One.f i kd z s = some (vTool i kd z s) := by
  unfold spec_l3One.f spec_l3Kind.f vTool
  simp only [l1In_eq, Option.bind_some, decide_eq_true_eq, beqd]
  repeat' split
  all_goals first | exact congrArg some (decide_eq_decide.mpr (by omega)) | exact congrArg some (decide_eq_false (by omega)).symm | exact congrArg some (decide_eq_true (by omega)).symm

theorem within_eq (a b c : Int) : impl_within.f a b c = some (decide (b ≤ a ∧ a ≤ c)) := by
  unfold impl_within.f
  by_cases h : a ≥ b
  · rw [if_pos h]
    have h' : b ≤ a := h
    simp [h']
  · rw [if_neg h]
    have h' : ¬ b ≤ a := h
    simp [h']

theorem isTool_eq {k : Nat} (hk : 1 ≤ k) (i kd z s : Int) : impl_IsTool.f k i kd z s = some (vTool i kd z s) := by
  obtain ⟨k, rfl⟩ : ∃ m, k = m + 1 := ⟨k - 1, by omega⟩
  unfold impl_IsTool.f impl_isId.f impl_isKind.f vTool
  simp only [impl_IsTool.j0, within_eq, Option.bind_some, decide_eq_true_eq, beqd, Bool.not_eq_true', decide_eq_false_iff_not, if_true]
  repeat' split
  all_goals first | exact congrArg some (decide_eq_decide.mpr (by omega)) | exact congrArg some (decide_eq_false (by omega)).symm | exact congrArg some (decide_eq_true (by omega)).symm

def rdB (kd r : Int) : Bool := decide ((kd = 0 → 0 ≤ r ∧ r ≤ 1000) ∧ (kd = 1 → 0 ≤ r ∧ r ≤ 359) ∧ (kd ≠ 0 → kd ≠ 1 → -90 ≤ r ∧ r ≤ 90))

theorem l3Reading_eq (kd r : Int) : spec_l3Reading.f kd r = some (rdB kd r) := by
  unfold spec_l3Reading.f rdB
  simp only [l1In_eq, Option.bind_some]
  repeat' split
  all_goals exact congrArg some (decide_eq_decide.mpr (by omega))

theorem w64 {x : Int} (h0 : -9223372036854775808 ≤ x) (h1 : x ≤ 9223372036854775807) : wrap64 x = x := by
  unfold wrap64
  omega

theorem td {x y : Int} (h : 0 ≤ x) : Int.tdiv x y = x / y := Int.tdiv_eq_ediv_of_nonneg h
theorem tm {x y : Int} (h : 0 ≤ x) : Int.tmod x y = x % y := Int.tmod_eq_emod_of_nonneg h

/-- a divided by 1000, rounded. -/
def rnd (a : Int) : Int := if a < 0 then -((2 * -a + 1000) / 2000) else (2 * a + 1000) / 2000
theorem rnd_bound {a : Int} (h0 : -2000000000 ≤ a) (h1 : a ≤ 2000000000) : -2000001 ≤ rnd a ∧ rnd a ≤ 2000001 := by
  unfold rnd
  split <;> omega

/-- The corrected reading, of a valid tool. -/
def crP (kd z s r : Int) : Int := if kd = 0 then rnd ((r - z) * s) else if kd = 1 then (r - z + 360) % 360 else r - z
theorem mul_bound {a s : Int} (h0 : -1050 ≤ a) (h1 : a ≤ 1050) (k0 : 900 ≤ s) (k1 : s ≤ 1100) : -1155000 ≤ a * s ∧ a * s ≤ 1155000 := by
  have e1 : a * s ≤ 1050 * s := Int.mul_le_mul_of_nonneg_right h1 (by omega)
  have e2 : -1050 * s ≤ a * s := Int.mul_le_mul_of_nonneg_right h0 (by omega)
  omega
theorem rdB_wide {kd r : Int} (h : rdB kd r = true) : -90 ≤ r ∧ r ≤ 1000 := by
  have := of_decide_eq_true h
  omega

theorem l11_pos (k : Nat) (a : Int) (h0 : 0 ≤ a) (h1 : a ≤ 2000000000) : spec_l11Round.f (k + 1) a 1000 = some ((2 * a + 1000) / 2000) := by
  simp only [spec_l11Round.f]
  rw [if_neg (by omega), w64 (x := 2 * 1000) (by omega) (by omega), if_neg (by omega), w64 (x := 2 * a) (by omega) (by omega), w64 (x := 2 * a + 1000) (by omega) (by omega), td (by omega)]
  exact congrArg some (w64 (by omega) (by omega))
theorem l11_eq (k : Nat) (a : Int) (h0 : -2000000000 ≤ a) (h1 : a ≤ 2000000000) : spec_l11Round.f (k + 2) a 1000 = some (rnd a) := by
  unfold rnd
  by_cases hn : a < 0
  · rw [if_pos hn, spec_l11Round.f, if_pos hn, w64 (x := -a) (by omega) (by omega), l11_pos k (-a) (by omega) (by omega)]
    exact congrArg some (w64 (by omega) (by omega))
  · rw [if_neg hn, l11_pos (k + 1) a (by omega) h1]

theorem l3Correct_eq {k : Nat} (hk : 2 ≤ k) {i kd z s r : Int} (hv : vTool i kd z s = true) (hr : rdB kd r = true) : spec_l3Correct.f k i kd z s r = some (crP kd z s r) := by
  obtain ⟨k, rfl⟩ : ∃ m, k = m + 2 := ⟨k - 2, by omega⟩
  obtain ⟨_, h2, h3, h4, h5⟩ := vTool_true hv
  have hw := rdB_wide hr
  unfold spec_l3Correct.f crP
  have e1 : wrap64 (r - z) = r - z := w64 (by omega) (by omega)
  have hm := mul_bound (a := r - z) (s := s) (by omega) (by omega) h4.1 h4.2
  have e2 : wrap64 ((r - z) * s) = (r - z) * s := w64 (by omega) (by omega)
  have e3 : wrap64 (r - z + 360) = r - z + 360 := w64 (by omega) (by omega)
  rw [e1, e2, e3, l11_eq k _ (by omega) (by omega)]
  split
  · simp
  · split
    · rw [tm (by omega)]
    · rfl

theorem rounded_pos (k : Nat) (a : Int) (h0 : 0 ≤ a) (h1 : a ≤ 2000000000) : impl_rounded.f (k + 1) a 1000 = some ((2 * a + 1000) / 2000) := by
  simp only [impl_rounded.f]
  rw [if_neg (by omega), w64 (x := 2 * 1000) (by omega) (by omega), if_neg (by omega), w64 (x := 2 * a) (by omega) (by omega), w64 (x := 2 * a + 1000) (by omega) (by omega), td (by omega)]
  exact congrArg some (w64 (by omega) (by omega))
theorem rounded_eq (k : Nat) (a : Int) (h0 : -2000000000 ≤ a) (h1 : a ≤ 2000000000) : impl_rounded.f (k + 2) a 1000 = some (rnd a) := by
  unfold rnd
  by_cases hn : a < 0
  · rw [if_pos hn, impl_rounded.f, if_pos hn, w64 (x := -a) (by omega) (by omega), rounded_pos k (-a) (by omega) (by omega)]
    exact congrArg some (w64 (by omega) (by omega))
  · rw [if_neg hn, rounded_pos (k + 1) a (by omega) h1]

theorem isReading_eq (kd r : Int) : impl_isReading.f kd r = some (rdB kd r) := by
  unfold impl_isReading.f impl_isBearing.f rdB
  simp only [within_eq, Option.bind_some]
  repeat' split
  all_goals exact congrArg some (decide_eq_decide.mpr (by omega))

theorem modulo_eq {x : Int} (h0 : -360 ≤ x) (h1 : x ≤ 2000) : impl_modulo.f x 360 = some ((x + 360) % 360) := by
  unfold impl_modulo.f
  rw [if_neg (by omega)]
  by_cases hn : x < 0
  · have e : Int.tmod x 360 = -(-x % 360) := by
      have h := Int.neg_tmod (-x) 360
      rw [Int.neg_neg, tm (x := -x) (by omega)] at h
      exact h
    rw [e, w64 (x := -(-x % 360) + 360) (by omega) (by omega), tm (x := -(-x % 360) + 360) (by omega)]
    exact congrArg some (by omega)
  · rw [tm (x := x) (by omega), w64 (x := x % 360 + 360) (by omega) (by omega), tm (x := x % 360 + 360) (by omega)]
    exact congrArg some (by omega)
theorem correct_eq {k : Nat} (hk : 2 ≤ k) {i kd z s r : Int} (hv : vTool i kd z s = true) (hr : rdB kd r = true) : impl_correct.f k i kd z s r = some (crP kd z s r, rdB kd (crP kd z s r)) := by
  obtain ⟨k, rfl⟩ : ∃ m, k = m + 2 := ⟨k - 2, by omega⟩
  obtain ⟨_, h2, h3, h4, h5⟩ := vTool_true hv
  have hw := rdB_wide hr
  unfold impl_correct.f crP
  have e1 : wrap64 (r - z) = r - z := w64 (by omega) (by omega)
  have hm := mul_bound (a := r - z) (s := s) (by omega) (by omega) h4.1 h4.2
  have e2 : wrap64 ((r - z) * s) = (r - z) * s := w64 (by omega) (by omega)
  rw [e1, e2, rounded_eq k _ (by omega) (by omega), modulo_eq (x := r - z) (by omega) (by omega)]
  simp only [isReading_eq, Option.bind_some, hr, if_true]
  split
  · rfl
  · split <;> rfl
theorem correct_no (k : Nat) {i kd z s r : Int} (hr : rdB kd r = false) : impl_correct.f k i kd z s r = some (0, false) := by
  unfold impl_correct.f
  simp [isReading_eq, hr]

/-- What CorrectReading gives. -/
def crR (i kd z s r : Int) : Int × Bool := if (vTool i kd z s && rdB kd r && rdB kd (crP kd z s r)) = true then (crP kd z s r, true) else (0, false)
theorem specCR_eq {k : Nat} (hk : 2 ≤ k) (i kd z s r : Int) : spec_CorrectReading.f k i kd z s r = some (crR i kd z s r) := by
  unfold spec_CorrectReading.f crR
  simp only [Option.bind_some, l3One_eq, l3Reading_eq]
  cases hv : vTool i kd z s with
  | false => simp
  | true =>
    cases hr : rdB kd r with
    | false => simp
    | true =>
      simp only [if_true, l3Correct_eq hk hv hr, l3Reading_eq, Option.bind_some]
      cases hc : rdB kd (crP kd z s r) <;> simp

/-- The error of a check, of any tool. -/
def erR (i kd z s r t : Int) : Int × Bool := if (vTool i kd z s && rdB kd r && rdB kd (crP kd z s r) && rdB kd t) = true then (if kd = 1 then ((crP kd z s r - t + 539) % 360 - 179, true) else (crP kd z s r - t, true)) else (0, false)
theorem erR_bound {i kd z s r t : Int} : -1090 ≤ (erR i kd z s r t).1 ∧ (erR i kd z s r t).1 ≤ 1090 := by
  unfold erR
  split
  · rename_i h
    simp only [Bool.and_eq_true] at h
    have h1 := rdB_wide h.1.2
    have h2 := rdB_wide h.2
    split
    · simp only []; omega
    · simp only []; omega
  · simp
theorem specErr_eq {k : Nat} (hk : 2 ≤ k) (i kd z s r t : Int) : spec_l3Error.f k i kd z s r t = some (erR i kd z s r t) := by
  obtain ⟨k, rfl⟩ : ∃ m, k = m + 1 := ⟨k - 1, by omega⟩
  unfold spec_l3Error.f erR
  rw [specCR_eq hk]
  simp only [Option.bind_some, l3Reading_eq, crR]
  cases hc : (vTool i kd z s && rdB kd r && rdB kd (crP kd z s r)) with
  | false => simp [spec_l3Error.j0]
  | true =>
    simp only [if_true]
    cases ht : rdB kd t with
    | false => simp [spec_l3Error.j0]
    | true =>
      simp only [spec_l3Error.j0, Bool.not_true, Bool.false_eq_true, if_false, Bool.and_self, if_true]
      simp only [Bool.and_eq_true] at hc
      have h1 := rdB_wide hc.2
      have h2 := rdB_wide ht
      have e1 : wrap64 (crP kd z s r - t) = crP kd z s r - t := w64 (by omega) (by omega)
      rw [e1]
      by_cases hk1 : kd = 1
      · rw [if_pos hk1, if_pos hk1]
        subst hk1
        have g1 := of_decide_eq_true hc.2
        have g2 := of_decide_eq_true ht
        rw [w64 (x := crP 1 z s r - t + 360) (by omega) (by omega), w64 (x := crP 1 z s r - t + 360 + 179) (by omega) (by omega), tm (x := crP 1 z s r - t + 360 + 179) (by omega), w64 (x := (crP 1 z s r - t + 360 + 179) % 360 - 179) (by omega) (by omega), show crP 1 z s r - t + 360 + 179 = crP 1 z s r - t + 539 by omega]
      · rw [if_neg hk1, if_neg hk1]
theorem implErr_eq {k : Nat} (hk : 2 ≤ k) {i kd z s : Int} (hv : vTool i kd z s = true) (r t : Int) : impl_checkError.f k i kd z s r t = some (erR i kd z s r t) := by
  obtain ⟨k, rfl⟩ : ∃ m, k = m + 1 := ⟨k - 1, by omega⟩
  unfold impl_checkError.f erR
  rw [hv]
  cases hr : rdB kd r with
  | false => simp [correct_no (k + 1) hr, impl_checkError.j0]
  | true =>
    simp only [correct_eq hk hv hr, Option.bind_some, isReading_eq]
    cases hc : rdB kd (crP kd z s r) with
    | false => simp [impl_checkError.j0]
    | true =>
      simp only [if_true]
      cases ht : rdB kd t with
      | false => simp [impl_checkError.j0]
      | true =>
        simp only [impl_checkError.j0, Bool.not_true, Bool.false_eq_true, if_false, Bool.and_self, if_true]
        have h1 := rdB_wide hc
        have h2 := rdB_wide ht
        have e1 : wrap64 (crP kd z s r - t) = crP kd z s r - t := w64 (by omega) (by omega)
        rw [e1]
        by_cases hk1 : kd = 1
        · rw [if_pos hk1, if_pos hk1]
          subst hk1
          have g1 := of_decide_eq_true hc
          have g2 := of_decide_eq_true ht
          rw [modulo_eq (x := crP 1 z s r - t) (by omega) (by omega)]
          simp only [Option.bind_some]
          by_cases h180 : (crP 1 z s r - t + 360) % 360 > 180
          · rw [if_pos h180, w64 (x := (crP 1 z s r - t + 360) % 360 - 360) (by omega) (by omega)]
            exact congrArg some (Prod.ext (by simp only []; omega) rfl)
          · rw [if_neg h180]
            exact congrArg some (Prod.ext (by simp only []; omega) rfl)
        · rw [if_neg hk1, if_neg hk1]

/-- What the checks of a tool must meet, from place n on. -/
def ckFrom (kd : Int) (l : List S46) (n : Nat) : Prop := ∀ j, n ≤ j → j < l.length → rdB kd (l.getD j z46).f0 = true ∧ rdB kd (l.getD j z46).f1 = true
theorem checks_loops (i kd z s : Int) (l : List S46) (hl : l.length ≤ 140737488351232) (d : Nat) : ∀ (k n : Nat), n + d = l.length → d + 1 < k →
    ∃ b : Bool, spec_l3Checks.l0 k l (n : Int) i kd z s = some b ∧ impl_areChecks.l0 k l l (l.length : Int) (n : Int) i kd z s = some b ∧ (b = true ↔ ckFrom kd l n ∧ vTool i kd z s = true ∧ 1 ≤ l.length ∧ l.length ≤ 10) := by
  induction d with
  | zero =>
    intro k n hd hk
    obtain ⟨k, rfl⟩ : ∃ m, k = m + 1 := ⟨k - 1, by omega⟩
    refine ⟨vTool i kd z s && decide (1 ≤ (l.length : Int) ∧ (l.length : Int) ≤ 10), ?_, ?_, ?_⟩
    · simp only [spec_l3Checks.l0]; rw [if_neg (by omega), l3One_eq, l1In_eq]; cases vTool i kd z s <;> simp
    · simp only [impl_areChecks.l0]; rw [if_neg (by omega), isTool_eq (by omega), within_eq]; cases vTool i kd z s <;> simp
    · rw [Bool.and_eq_true, decide_eq_true_eq]
      exact ⟨fun h => ⟨fun j h1 h2 => by omega, h.1, by omega, by omega⟩, fun h => ⟨h.2.1, by omega⟩⟩
  | succ d ih =>
    intro k n hd hk
    obtain ⟨k, rfl⟩ : ∃ m, k = m + 1 := ⟨k - 1, by omega⟩
    have ew : wrap64 ((n : Int) + 1) = ((n + 1 : Nat) : Int) := (w64 (by omega) (by omega)).trans (by omega)
    have er : rd_T46 l (n : Int) = l.getD n z46 := by simp [rd_T46]
    obtain ⟨b, e1, e2, hb⟩ := ih k (n + 1) (by omega) (by omega)
    have c1 : (n : Int) < (l.length : Int) := by omega
    have c2 : 0 ≤ (n : Int) := by omega
    simp only [spec_l3Checks.l0, impl_areChecks.l0, if_pos c1, if_pos c2, er, l3Reading_eq, isReading_eq, ew, Option.bind_some]
    cases h0 : rdB kd (l.getD n z46).f0 with
    | false =>
      refine ⟨false, by simp, by simp, ?_⟩
      simp only [Bool.false_eq_true, false_iff]
      intro h
      have := (h.1 n (Nat.le_refl _) (by omega)).1
      rw [h0] at this
      cases this
    | true =>
      cases h1 : rdB kd (l.getD n z46).f1 with
      | false =>
        refine ⟨false, by simp, by simp, ?_⟩
        simp only [Bool.false_eq_true, false_iff]
        intro h
        have := (h.1 n (Nat.le_refl _) (by omega)).2
        rw [h1] at this
        cases this
      | true =>
        refine ⟨b, by simpa using e1, by simpa using e2, hb.trans (and_congr_left fun _ => ⟨fun g j g1 g2 => ?_, fun g j g1 g2 => g j (by omega) g2⟩)⟩
        rcases Nat.eq_or_lt_of_le g1 with rfl | hlt
        · exact ⟨h0, h1⟩
        · exact g j hlt g2
theorem checks_eq (i kd z s : Int) (l : List S46) (hl : l.length ≤ 140737488351232) : ∃ b : Bool, (∀ k, l.length + 1 < k → spec_l3Checks.f k i kd z s l = some b ∧ impl_areChecks.f k i kd z s l = some b) ∧ (b = true ↔ ckFrom kd l 0 ∧ vTool i kd z s = true ∧ 1 ≤ l.length ∧ l.length ≤ 10) := by
  obtain ⟨b, _, _, hb⟩ := checks_loops i kd z s l hl l.length (l.length + 2) 0 (by omega) (by omega)
  refine ⟨b, fun k hk => ?_, hb⟩
  obtain ⟨b', e1, e2, hb'⟩ := checks_loops i kd z s l hl l.length k 0 (by omega) hk
  have : b' = b := by rw [Bool.eq_iff_iff]; exact hb'.trans hb.symm
  subst this
  exact ⟨e1, e2⟩

def ab (x : Int) : Int := if x < 0 then -x else x
theorem absolute_eq {x : Int} (h0 : -1090 ≤ x) (h1 : x ≤ 1090) : impl_absolute.f x = some (ab x) := by
  unfold impl_absolute.f ab mx
  rw [w64 (by omega) (by omega)]
  exact congrArg some (by split <;> split <;> omega)
theorem most_eq {x : Int} (h0 : -1090 ≤ x) (h1 : x ≤ 1090) : spec_l1Most.f x (wrap64 (-x)) = some (ab x) := by
  unfold spec_l1Most.f ab
  rw [w64 (by omega) (by omega)]
  split <;> split <;> first | rfl | exact congrArg some (by omega)
/-- The worst check, from place n on, with the best so far. -/
def wf (e : S46 → Int × Bool) : List S46 → Int → Int → Int → Option (Int × Int)
  | [], _, b, m => some (b, m)
  | x :: xs, n, b, m => if (e x).2 = true then (if ab (e x).1 > m then wf e xs (n + 1) n (ab (e x).1) else wf e xs (n + 1) b m) else none
def erOf (i kd z s : Int) (x : S46) : Int × Bool := erR i kd z s x.f0 x.f1
theorem specWorst_loop (i kd z s : Int) (l : List S46) (hl : l.length ≤ 140737488351232) : ∀ (xs : List S46) (k n : Nat) (b m : Int), l.drop n = xs → xs.length + 2 < k →
    spec_l3Worst.l0 k l b m (n : Int) i kd z s = some ((wf (erOf i kd z s) xs n b m).getD (-1, 0))
  | [], k, n, b, m, hx, hk => by
    obtain ⟨k, rfl⟩ : ∃ m, k = m + 1 := ⟨k - 1, by omega⟩
    have hn : l.length ≤ n := List.drop_eq_nil_iff.mp hx
    simp only [spec_l3Worst.l0, wf, Option.getD_some]
    rw [if_neg (by omega)]
  | x :: xs, k, n, b, m, hx, hk => by
    obtain ⟨k, rfl⟩ : ∃ m, k = m + 1 := ⟨k - 1, by omega⟩
    have hn : n < l.length := by
      have := congrArg List.length hx
      simp at this
      omega
    have hd := List.drop_eq_getElem_cons hn
    rw [hx] at hd
    obtain ⟨h1, h2⟩ := List.cons.inj hd
    have ew : wrap64 ((n : Int) + 1) = ((n + 1 : Nat) : Int) := (w64 (by omega) (by omega)).trans (by omega)
    have er : rd_T46 l (n : Int) = x := by simp [rd_T46, hn, h1]
    have c1 : (n : Int) < (l.length : Int) := by omega
    have c2 : 0 ≤ (n : Int) := by omega
    have hb : -1090 ≤ (erOf i kd z s x).1 ∧ (erOf i kd z s x).1 ≤ 1090 := erR_bound
    have hk' : xs.length + 2 < k := by simp at hk; omega
    have es : spec_l3Error.f k i kd z s x.f0 x.f1 = some (erOf i kd z s x) := specErr_eq (by omega) i kd z s x.f0 x.f1
    have ih1 := specWorst_loop i kd z s l hl xs k (n + 1) (n : Int) (ab (erOf i kd z s x).1) h2.symm hk'
    have ih2 := specWorst_loop i kd z s l hl xs k (n + 1) b m h2.symm hk'
    simp only [spec_l3Worst.l0, if_pos c1, if_pos c2, er, es, ew, Option.bind_some, wf]
    by_cases h : (erOf i kd z s x).2 = true
    case neg => simp only [if_neg h, Option.getD_none]
    case pos =>
      simp only [if_pos h, most_eq hb.1 hb.2, Option.bind_some]
      rw [show ((n : Int) + 1) = ((n + 1 : Nat) : Int) by omega]
      by_cases c : ab (erOf i kd z s x).1 > m
      · simp only [if_pos c]; exact ih1
      · simp only [if_neg c]; exact ih2
theorem implWorst_loop {i kd z s : Int} (hv : vTool i kd z s = true) (l : List S46) (hl : l.length ≤ 140737488351232) : ∀ (xs : List S46) (k n : Nat) (b m : Int), l.drop n = xs → xs.length + 2 < k →
    impl_worst.l0 k b m l (l.length : Int) (n : Int) i kd z s = some (match wf (erOf i kd z s) xs n b m with | some p => (p.1, p.2, true) | none => (0, 0, false))
  | [], k, n, b, m, hx, hk => by
    obtain ⟨k, rfl⟩ : ∃ m, k = m + 1 := ⟨k - 1, by omega⟩
    have hn : l.length ≤ n := List.drop_eq_nil_iff.mp hx
    simp only [impl_worst.l0, wf]
    rw [if_neg (by omega)]
  | x :: xs, k, n, b, m, hx, hk => by
    obtain ⟨k, rfl⟩ : ∃ m, k = m + 1 := ⟨k - 1, by omega⟩
    have hn : n < l.length := by
      have := congrArg List.length hx
      simp at this
      omega
    have hd := List.drop_eq_getElem_cons hn
    rw [hx] at hd
    obtain ⟨h1, h2⟩ := List.cons.inj hd
    have ew : wrap64 ((n : Int) + 1) = ((n + 1 : Nat) : Int) := (w64 (by omega) (by omega)).trans (by omega)
    have er : rd_T46 l (n : Int) = x := by simp [rd_T46, hn, h1]
    have c1 : (n : Int) < (l.length : Int) := by omega
    have c2 : 0 ≤ (n : Int) := by omega
    have hb : -1090 ≤ (erOf i kd z s x).1 ∧ (erOf i kd z s x).1 ≤ 1090 := erR_bound
    have hk' : xs.length + 2 < k := by simp at hk; omega
    have es : impl_checkError.f k i kd z s x.f0 x.f1 = some (erOf i kd z s x) := implErr_eq (by omega) hv x.f0 x.f1
    have ih1 := implWorst_loop hv l hl xs k (n + 1) (n : Int) (ab (erOf i kd z s x).1) h2.symm hk'
    have ih2 := implWorst_loop hv l hl xs k (n + 1) b m h2.symm hk'
    simp only [impl_worst.l0, if_pos c1, if_pos c2, er, es, ew, Option.bind_some, wf]
    by_cases h : (erOf i kd z s x).2 = true
    case neg => simp only [if_neg h]
    case pos =>
      simp only [if_pos h, absolute_eq hb.1 hb.2, Option.bind_some]
      rw [show ((n : Int) + 1) = ((n + 1 : Nat) : Int) by omega]
      by_cases c : ab (erOf i kd z s x).1 > m
      · simp only [if_pos c]; exact ih1
      · simp only [if_neg c]; exact ih2
/-- What the worst check is: its place and its distance. -/
def wo (i kd z s : Int) (l : List S46) : Option (Int × Int) := wf (erOf i kd z s) l 0 0 (-1)
theorem ab_nonneg (x : Int) : 0 ≤ ab x := by unfold ab; split <;> omega
theorem wf_first (e : S46 → Int × Bool) (x : S46) (xs : List S46) (b b' : Int) : wf e (x :: xs) 0 b (-1) = wf e (x :: xs) 0 b' (-1) := by
  have := ab_nonneg (e x).1
  simp only [wf]
  split
  · rw [if_pos (by omega), if_pos (by omega)]
  · rfl
theorem wf_nonneg (e : S46 → Int × Bool) : ∀ (xs : List S46) (n b m : Int), 0 ≤ n → 0 ≤ b → ∀ p, wf e xs n b m = some p → 0 ≤ p.1 ∧ m ≤ p.2
  | [], n, b, m, hn, hb, p, h => by
    simp only [wf, Option.some.injEq] at h
    subst h
    exact ⟨hb, Int.le_refl _⟩
  | x :: xs, n, b, m, hn, hb, p, h => by
    simp only [wf] at h
    split at h
    · split at h
      · have := wf_nonneg e xs (n + 1) n _ (by omega) hn p h
        exact ⟨this.1, by omega⟩
      · exact wf_nonneg e xs (n + 1) b m (by omega) hb p h
    · cases h
theorem wo_nonneg {i kd z s : Int} {l : List S46} (hl : l ≠ []) {p : Int × Int} (h : wo i kd z s l = some p) : 0 ≤ p.1 ∧ 0 ≤ p.2 := by
  unfold wo at h
  cases l with
  | nil => exact absurd rfl hl
  | cons x xs =>
    have h0 := ab_nonneg (erOf i kd z s x).1
    simp only [wf] at h
    split at h
    · rw [if_pos (by omega)] at h
      have := wf_nonneg _ xs (0 + 1) 0 _ (by omega) (by omega) p h
      exact ⟨this.1, by omega⟩
    · cases h
theorem specWorst_eq (i kd z s : Int) (l : List S46) (hn : l ≠ []) (hl : l.length ≤ 140737488351232) {k : Nat} (hk : l.length + 2 < k) : spec_l3Worst.f k i kd z s l = some ((wo i kd z s l).getD (-1, 0)) := by
  unfold spec_l3Worst.f wo
  have h := specWorst_loop i kd z s l hl l k 0 (-1) (-1) rfl hk
  cases l with
  | nil => exact absurd rfl hn
  | cons x xs =>
    rw [← wf_first (erOf i kd z s) x xs (-1) 0]
    exact h
theorem implWorst_eq {i kd z s : Int} (hv : vTool i kd z s = true) (l : List S46) (hl : l.length ≤ 140737488351232) {k : Nat} (hk : l.length + 2 < k) : impl_worst.f k i kd z s l = some (match wo i kd z s l with | some p => (p.1, p.2, true) | none => (0, 0, false)) := by
  unfold impl_worst.f wo
  exact implWorst_loop hv l hl l k 0 0 (-1) rfl hk

/-- The tool with the smallest greatest distance, of a list, with the best so far. -/
def fitL (W : S44 → Option (Int × Int)) : List S44 → S44 → Int → S44 × Int
  | [], b, m => (b, m)
  | x :: xs, b, m => match W x with
    | some p => if m < 0 ∨ p.2 < m then fitL W xs x p.2 else fitL W xs b m
    | none => fitL W xs b m
def fitOut (q : S44 × Int) : Int × Int × Int × Int × Bool := (q.1.f0, q.1.f1, q.1.f2, q.1.f3, decide (q.2 ≥ 0))
def woOf (l : List S46) (x : S44) : Option (Int × Int) := wo x.f0 x.f1 x.f2 x.f3 l
theorem fit_loop (l : List S46) (hl : l.length ≤ 140737488351232) (ts : List S44) (ht : ts.length ≤ 140737488351232) (hv : ∀ x ∈ ts, vTool x.f0 x.f1 x.f2 x.f3 = true) : ∀ (xs : List S44) (k n : Nat) (b : S44) (m : Int), ts.drop n = xs → xs.length + l.length + 3 < k →
    impl_fit.l0 k l m ts (ts.length : Int) (n : Int) b.f0 b.f1 b.f2 b.f3 = some (fitOut (fitL (woOf l) xs b m))
  | [], k, n, b, m, hx, hk => by
    obtain ⟨k, rfl⟩ : ∃ m, k = m + 1 := ⟨k - 1, by omega⟩
    have hn : ts.length ≤ n := List.drop_eq_nil_iff.mp hx
    simp only [impl_fit.l0, fitL, fitOut]
    rw [if_neg (by omega)]
    rfl
  | x :: xs, k, n, b, m, hx, hk => by
    obtain ⟨k, rfl⟩ : ∃ m, k = m + 1 := ⟨k - 1, by omega⟩
    have hn : n < ts.length := by
      have := congrArg List.length hx
      simp at this
      omega
    have hd := List.drop_eq_getElem_cons hn
    rw [hx] at hd
    obtain ⟨h1, h2⟩ := List.cons.inj hd
    have hvx : vTool x.f0 x.f1 x.f2 x.f3 = true := hv x (by rw [h1]; exact List.getElem_mem _)
    have ew : wrap64 ((n : Int) + 1) = ((n + 1 : Nat) : Int) := (w64 (by omega) (by omega)).trans (by omega)
    have er : rd_T44 ts (n : Int) = x := by simp [rd_T44, hn, h1]
    have c1 : (n : Int) < (ts.length : Int) := by omega
    have c2 : 0 ≤ (n : Int) := by omega
    have hk' : xs.length + l.length + 3 < k := by simp at hk; omega
    simp only [impl_fit.l0, if_pos c1, if_pos c2, er, implWorst_eq hvx l hl (show l.length + 2 < k by omega), ew, Option.bind_some, fitL, woOf]
    cases hw : wo x.f0 x.f1 x.f2 x.f3 l with
    | none => simpa using fit_loop l hl ts ht hv xs k (n + 1) b m h2.symm hk'
    | some p =>
      simp only [if_true]
      by_cases c : m < 0 ∨ p.2 < m
      · rw [if_pos c]
        have ih := fit_loop l hl ts ht hv xs k (n + 1) x p.2 h2.symm hk'
        rcases Decidable.em (m < 0) with hm | hm
        · rw [if_pos hm]; exact ih
        · rw [if_neg hm, if_pos (by omega)]; exact ih
      · rw [if_neg c, if_neg (by omega), if_neg (by omega)]
        exact fit_loop l hl ts ht hv xs k (n + 1) b m h2.symm hk'
theorem fit_eq (l : List S46) (hl : l.length ≤ 140737488351232) (ts : List S44) (ht : ts.length ≤ 140737488351232) (hv : ∀ x ∈ ts, vTool x.f0 x.f1 x.f2 x.f3 = true) {k : Nat} (hk : ts.length + l.length + 3 < k) :
    impl_fit.f k ts l = some (fitOut (fitL (woOf l) ts ⟨0, 0, 0, 0⟩ (-1))) := by
  unfold impl_fit.f
  exact fit_loop l hl ts ht hv ts k 0 ⟨0, 0, 0, 0⟩ (-1) rfl hk
/-- What fits is in the list, and no other does better. -/
theorem fitL_best (W : S44 → Option (Int × Int)) (hW : ∀ x p, W x = some p → 0 ≤ p.2) : ∀ (xs : List S44) (b : S44) (m : Int), (m < 0 ∨ ∃ p, W b = some p ∧ p.2 = m) →
    ((fitL W xs b m).2 < 0 ∨ ∃ p, W (fitL W xs b m).1 = some p ∧ p.2 = (fitL W xs b m).2) ∧ ((fitL W xs b m).2 = m ∨ (fitL W xs b m).1 ∈ xs) ∧ (0 ≤ m → (fitL W xs b m).2 ≤ m ∧ 0 ≤ (fitL W xs b m).2) ∧
      ∀ x ∈ xs, ∀ p, W x = some p → 0 ≤ (fitL W xs b m).2 ∧ (fitL W xs b m).2 ≤ p.2
  | [], b, m, h => ⟨h, .inl rfl, fun h0 => ⟨Int.le_refl _, h0⟩, fun x hx => by simp at hx⟩
  | y :: ys, b, m, h => by
    simp only [fitL]
    cases hw : W y with
    | none =>
      obtain ⟨i1, i2, i3, i4⟩ := fitL_best W hW ys b m h
      refine ⟨i1, i2.imp id (List.mem_cons_of_mem _), i3, fun x hx p hp => ?_⟩
      rcases List.mem_cons.mp hx with rfl | hx
      · rw [hw] at hp; cases hp
      · exact i4 x hx p hp
    | some q =>
      have hq := hW y q hw
      simp only []
      by_cases c : m < 0 ∨ q.2 < m
      · rw [if_pos c]
        obtain ⟨i1, i2, i3, i4⟩ := fitL_best W hW ys y q.2 (.inr ⟨q, hw, rfl⟩)
        have i3' := i3 hq
        have hle : 0 ≤ m → (fitL W ys y q.2).2 ≤ m := by
          have h1 := i3'.1
          clear i1 i2 i3 i4 h
          intro h0
          rcases c with c | c <;> omega
        refine ⟨i1, .inr ?_, fun h0 => ⟨hle h0, i3'.2⟩, fun x hx p hp => ?_⟩
        · rcases i2 with e | e
          · by_cases hin : (fitL W ys y q.2).1 ∈ ys
            · exact List.mem_cons_of_mem _ hin
            · have := fitL_stay W ys y q.2
              rcases this with e2 | e2
              · rw [e2]; exact List.mem_cons_self
              · exact absurd e2 hin
          · exact List.mem_cons_of_mem _ e
        · rcases List.mem_cons.mp hx with rfl | hx
          · rw [hw] at hp; cases hp; exact ⟨i3'.2, i3'.1⟩
          · exact i4 x hx p hp
      · rw [if_neg c]
        obtain ⟨i1, i2, i3, i4⟩ := fitL_best W hW ys b m h
        refine ⟨i1, i2.imp id (List.mem_cons_of_mem _), i3, fun x hx p hp => ?_⟩
        rcases List.mem_cons.mp hx with rfl | hx
        · rw [hw] at hp; cases hp
          have hm : 0 ≤ m ∧ m ≤ q.2 := by
            clear i1 i2 i3 i4 h
            constructor
            · rcases Int.lt_or_le m 0 with g | g
              · exact absurd (.inl g) c
              · exact g
            · rcases Int.lt_or_le q.2 m with g | g
              · exact absurd (.inr g) c
              · exact g
          have := i3 hm.1
          exact ⟨this.2, Int.le_trans this.1 hm.2⟩
        · exact i4 x hx p hp
where fitL_stay (W : S44 → Option (Int × Int)) : ∀ (xs : List S44) (b : S44) (m : Int), (fitL W xs b m).1 = b ∨ (fitL W xs b m).1 ∈ xs
  | [], b, m => .inl rfl
  | y :: ys, b, m => by
    simp only [fitL]
    split
    · split
      · rcases fitL_stay W ys y _ with e | e
        · exact .inr (by rw [e]; exact List.mem_cons_self)
        · exact .inr (List.mem_cons_of_mem _ e)
      · exact (fitL_stay W ys b m).imp id (List.mem_cons_of_mem _)
    · exact (fitL_stay W ys b m).imp id (List.mem_cons_of_mem _)

/-- The tools with the zeros from z on. -/
def zts (i kd s : Int) : Nat → Int → List S44
  | 0, _ => []
  | n + 1, z => ⟨i, kd, z, s⟩ :: zts i kd s n (z + 1)
theorem zts_len (i kd s : Int) : ∀ n z, (zts i kd s n z).length = n
  | 0, _ => rfl
  | n + 1, z => by simp [zts, zts_len i kd s n]
theorem zts_mem (i kd s : Int) : ∀ n z x, x ∈ zts i kd s n z ↔ ∃ y, z ≤ y ∧ y < z + n ∧ x = ⟨i, kd, y, s⟩
  | 0, z, x => by
    simp only [zts, List.not_mem_nil, false_iff]
    rintro ⟨y, h0, h1, _⟩
    omega
  | n + 1, z, x => by
    simp only [zts, List.mem_cons, zts_mem i kd s n]
    constructor
    · rintro (rfl | ⟨y, h0, h1, rfl⟩)
      · exact ⟨z, by omega, by omega, rfl⟩
      · exact ⟨y, by omega, by omega, rfl⟩
    · rintro ⟨y, h0, h1, rfl⟩
      by_cases e : y = z
      · subst e; exact .inl rfl
      · exact .inr ⟨y, by omega, by omega, rfl⟩
theorem specFZ_loop (i kd s : Int) (l : List S46) (hn : l ≠ []) (hl : l.length ≤ 140737488351232) : ∀ (n k : Nat) (z m z0 : Int) (b : S44), z + n = 51 → -50 ≤ z → n + l.length + 3 < k →
    spec_FitZero.l0 k l m z i kd z0 s b.f0 b.f1 b.f2 b.f3 = some (fitOut (fitL (woOf l) (zts i kd s n z) b m))
  | 0, k, z, m, z0, b, hz, h0, hk => by
    obtain ⟨k, rfl⟩ : ∃ m, k = m + 1 := ⟨k - 1, by omega⟩
    simp only [spec_FitZero.l0, zts, fitL, fitOut]
    rw [if_neg (by omega)]
    try rfl
  | n + 1, k, z, m, z0, b, hz, h0, hk => by
    obtain ⟨k, rfl⟩ : ∃ m, k = m + 1 := ⟨k - 1, by omega⟩
    have ew : wrap64 (z + 1) = z + 1 := w64 (by omega) (by omega)
    have hle : z ≤ 50 := by omega
    simp only [spec_FitZero.l0, if_pos hle, specWorst_eq i kd z s l hn hl (show l.length + 2 < k by omega), ew, Option.bind_some, zts, fitL, woOf]
    cases hw : wo i kd z s l with
    | none =>
      simp only [Option.getD_none]
      rw [if_neg (by omega)]
      exact specFZ_loop i kd s l hn hl n k (z + 1) m z0 b (by omega) (by omega) (by omega)
    | some p =>
      have hp := wo_nonneg hn hw
      simp only [Option.getD_some]
      rw [if_pos (show p.1 ≥ 0 from hp.1)]
      have ih := specFZ_loop i kd s l hn hl n k (z + 1) p.2 z0 ⟨i, kd, z, s⟩ (by omega) (by omega) (by omega)
      by_cases c : m < 0 ∨ p.2 < m
      · rw [if_pos c]
        rcases Decidable.em (m < 0) with hm | hm
        · rw [if_pos hm]; exact ih
        · rw [if_neg hm, if_pos (by omega)]; exact ih
      · rw [if_neg c, if_neg (by omega), if_neg (by omega)]
        exact specFZ_loop i kd s l hn hl n k (z + 1) m z0 b (by omega) (by omega) (by omega)
theorem implFZ_loop (i kd s : Int) (l : List S46) : ∀ (n k : Nat) (z z0 : Int) (o : List S44), z + n = 51 → -50 ≤ z → o.length + n ≤ 4096 →
    impl_FitZero.l0 (k + n + 1) l o z i kd z0 s = (impl_fit.f k (o ++ zts i kd s n z) l).bind fun t => some (t.1, t.2.1, t.2.2.1, t.2.2.2.1, t.2.2.2.2)
  | 0, k, z, z0, o, hz, h0, ho => by
    simp only [impl_FitZero.l0, zts, Nat.add_zero]
    rw [if_neg (by omega), List.append_nil]
  | n + 1, k, z, z0, o, hz, h0, ho => by
    have ew : wrap64 (z + 1) = z + 1 := w64 (by omega) (by omega)
    have hle : z ≤ 50 := by omega
    have hle2 : o.length < 4398046511104 := by omega
    have ih := implFZ_loop i kd s l n k (z + 1) z (o ++ [⟨i, kd, z, s⟩]) (by omega) (by omega) (by simp; omega)
    rw [show k + (n + 1) + 1 = (k + n + 1) + 1 by omega]
    rw [impl_FitZero.l0, if_pos hle, if_pos hle2, ew, ih, List.append_assoc]
    rfl
theorem FZ_eq (i kd z s : Int) (l : List S46) (hl : l.length ≤ 2097152) : ∃ q, (∀ k, l.length + 210 < k → spec_FitZero.f k i kd z s l = some q ∧ impl_FitZero.f k i kd z s l = some q) ∧
    ((ckFrom kd l 0 ∧ vTool i kd z s = true ∧ 1 ≤ l.length ∧ l.length ≤ 10 ∧ q = fitOut (fitL (woOf l) (zts i kd s 101 (-50)) ⟨0, 0, 0, 0⟩ (-1))) ∨ (¬ (ckFrom kd l 0 ∧ vTool i kd z s = true ∧ 1 ≤ l.length ∧ l.length ≤ 10) ∧ q = (0, 0, 0, 0, false))) := by
  obtain ⟨b, hb, hiff⟩ := checks_eq i kd z s l (by omega)
  unfold spec_FitZero.f impl_FitZero.f
  cases b with
  | false =>
    refine ⟨(0, 0, 0, 0, false), fun k hk => ?_, .inr ⟨fun h => ?_, rfl⟩⟩
    · obtain ⟨e1, e2⟩ := hb k (by omega)
      rw [e1, e2]
      simp
    · have := hiff.mpr h
      cases this
  | true =>
    obtain ⟨hck, hv, h1, h10⟩ := hiff.mp rfl
    have hn : l ≠ [] := by intro h; subst h; simp at h1
    refine ⟨fitOut (fitL (woOf l) (zts i kd s 101 (-50)) ⟨0, 0, 0, 0⟩ (-1)), fun k hk => ?_, .inl ⟨hck, hv, h1, h10, rfl⟩⟩
    obtain ⟨e1, e2⟩ := hb k (by omega)
    rw [e1, e2]
    simp only [Option.bind_some, if_true]
    refine ⟨specFZ_loop i kd s l hn (by omega) 101 k (-50) (-1) z ⟨0, 0, 0, 0⟩ (by omega) (by omega) (by omega), ?_⟩
    obtain ⟨k, rfl⟩ : ∃ m, k = m + 101 + 1 := ⟨k - 102, by omega⟩
    rw [implFZ_loop i kd s l 101 k (-50) z [] (by omega) (by omega) (by simp), List.nil_append, fit_eq l (by omega) _ (by rw [zts_len]; omega) ?_ (by rw [zts_len]; omega)]
    · rfl
    · intro x hx
      obtain ⟨y, y0, y1, rfl⟩ := (zts_mem i kd s 101 (-50) x).mp hx
      have := vTool_true hv
      exact decide_eq_true (by simp only []; omega)

theorem implCE_eq {k : Nat} (hk : 2 ≤ k) (i kd z s r t : Int) : impl_CheckError.f k i kd z s r t = some (erR i kd z s r t) := by
  unfold impl_CheckError.f
  rw [isTool_eq (by omega)]
  simp only [Option.bind_some]
  cases hv : vTool i kd z s with
  | false => simp [erR, hv]
  | true => simp [implErr_eq hk hv]

theorem implCR_eq {k : Nat} (hk : 2 ≤ k) (i kd z s r : Int) : impl_CorrectReading.f k i kd z s r = some (crR i kd z s r) := by
  unfold impl_CorrectReading.f crR
  simp only [Option.bind_some, isTool_eq (show 1 ≤ k by omega)]
  cases hv : vTool i kd z s with
  | false => simp
  | true =>
    cases hr : rdB kd r with
    | false => simp [correct_no k hr]
    | true =>
      simp only [if_true, correct_eq hk hv hr, Option.bind_some]
      cases hc : rdB kd (crP kd z s r) <;> simp

theorem rd_u8 {l : List Int} (hl : ∀ y ∈ l, (Lit.int .u8 y).wf = true) (i : Int) : 0 ≤ rd l i ∧ rd l i ≤ 255 := by
  unfold rd
  rw [List.getD_eq_getElem?_getD]
  cases e : l[i.toNat]? with
  | none => simp
  | some x =>
    have h := hl x (List.mem_of_getElem? e)
    simp only [Lit.wf, Bool.and_eq_true, decide_eq_true_eq] at h
    have h2 : 0 ≤ x ∧ x ≤ 255 := h
    simpa using h2
theorem and_255 (x : Int) (h0 : 0 ≤ x) (h1 : x < 18446744073709551616) : 0 ≤ Go.bits .and .u64 x 255 ∧ Go.bits .and .u64 x 255 ≤ 255 := by
  have h := bits_and_u64_nat x.toNat 255 (by omega) (by omega)
  have e : ((x.toNat : Nat) : Int) = x := Int.toNat_of_nonneg h0
  rw [e] at h
  have e2 : ((255 : Nat) : Int) = 255 := rfl
  rw [e2] at h
  rw [h]
  have := Nat.and_le_right (n := x.toNat) (m := 255)
  omega
/-- A state's place: not negative, and not too far. -/
def Pl (p : Int) : Prop := 0 ≤ p ∧ p ≤ 1000000
theorem u64_bound (x : Int) : 0 ≤ IntKind.u64.wrap x ∧ IntKind.u64.wrap x < 18446744073709551616 := by
  have e : IntKind.u64.wrap x = x % 18446744073709551616 := rfl
  rw [e]
  omega
theorem next_ok {l : List Int} (hl : ∀ y ∈ l, (Lit.int .u8 y).wf = true) (p q : Int) (h0 : 0 ≤ p) (h1 : p ≤ 1000000) : ∃ v p' q', spec_l1Cur_next.f l p q = some (v, p', q') ∧ 0 ≤ v ∧ v ≤ 255 ∧ 0 ≤ p' ∧ p' ≤ p + 1 := by
  have ep : wrap64 (p + 1) = p + 1 := w64 (by omega) (by omega)
  have hd : ∀ x : Int, 0 ≤ wrap64 (Go.bits .and .u64 (IntKind.u64.wrap x / 1099511627776) 255) ∧ wrap64 (Go.bits .and .u64 (IntKind.u64.wrap x / 1099511627776) 255) ≤ 255 := by
    intro x
    have hb := u64_bound x
    have h := and_255 (IntKind.u64.wrap x / 1099511627776) (by omega) (by omega)
    rw [w64 (by omega) (by omega)]
    exact h
  unfold spec_l1Cur_next.f
  rw [ep]
  have hr := rd_u8 hl p
  have er : wrap64 (rd l p) = rd l p := w64 (by omega) (by omega)
  by_cases c : p < (l.length : Int)
  · have c2 : p + 1 ≤ (l.length : Int) := by omega
    simp only [if_pos c, if_pos h0, if_pos c2]
    exact ⟨_, _, _, rfl, by rw [er]; exact hr.1, by rw [er]; exact hr.2, by omega, by omega⟩
  · have c2 : ¬ p + 1 ≤ (l.length : Int) := by omega
    simp only [if_neg c, if_neg c2]
    exact ⟨_, _, _, rfl, (hd _).1, (hd _).2, by omega, by omega⟩
theorem pick_ok {l : List Int} (hl : ∀ y ∈ l, (Lit.int .u8 y).wf = true) (p q n : Int) (h0 : 0 ≤ p) (h1 : p ≤ 900000) (hn : 1 ≤ n) (hn1 : n ≤ 1000000) : ∃ v p' q', spec_l1Cur_pick.f l p q n = some (v, p', q') ∧ 0 ≤ v ∧ v < n ∧ 0 ≤ p' ∧ p' ≤ p + 2 := by
  unfold spec_l1Cur_pick.f
  by_cases c : n ≤ 1
  · rw [if_pos c]
    exact ⟨_, _, _, rfl, by omega, by omega, by omega, by omega⟩
  · have cz : ¬ n = 0 := by omega
    obtain ⟨v, p1, q1, e1, a1, a2, a3, a4⟩ := next_ok hl p q h0 (by omega)
    rw [if_neg c, e1]
    simp only [Option.bind_some, if_neg cz]
    by_cases c2 : n > 200
    · obtain ⟨v2, p2, q2, e2, b1, b2, b3, b4⟩ := next_ok hl p1 q1 a3 (by omega)
      rw [if_pos c2, e2]
      simp only [Option.bind_some]
      rw [w64 (x := v * 256) (by omega) (by omega), w64 (x := v * 256 + v2) (by omega) (by omega), Int.tmod_eq_emod_of_nonneg (by omega)]
      exact ⟨_, _, _, rfl, Int.emod_nonneg _ cz, Int.emod_lt_of_pos _ (by omega), by omega, by omega⟩
    · rw [if_neg c2, Int.tmod_eq_emod_of_nonneg (by omega)]
      exact ⟨_, _, _, rfl, Int.emod_nonneg _ cz, Int.emod_lt_of_pos _ (by omega), by omega, by omega⟩

theorem among_ok {l : List Int} (hl : ∀ y ∈ l, (Lit.int .u8 y).wf = true) (p q : Int) (xs : List Int) (h0 : 0 ≤ p) (h1 : p ≤ 900000) (hx : 1 ≤ xs.length) (hx1 : xs.length ≤ 1000000) {P : Int → Prop} (hP : ∀ x ∈ xs, P x) : ∃ v p' q', spec_l1Cur_among.f l p q xs = some (v, p', q') ∧ P v ∧ 0 ≤ p' ∧ p' ≤ p + 2 := by
  obtain ⟨v, p1, q1, e1, a1, a2, a3, a4⟩ := pick_ok hl p q (xs.length : Int) h0 h1 (by omega) (by omega)
  unfold spec_l1Cur_among.f
  rw [e1]
  simp only [Option.bind_some]
  rw [if_pos a1, if_pos a2]
  refine ⟨_, _, _, rfl, ?_, a3, a4⟩
  have hv : v.toNat < xs.length := by omega
  have e : rd xs v = xs[v.toNat] := by unfold rd; rw [List.getD_eq_getElem?_getD, List.getElem?_eq_getElem hv]; rfl
  rw [e]
  exact hP _ (List.getElem_mem hv)

theorem one_ok {l : List Int} (hl : ∀ y ∈ l, (Lit.int .u8 y).wf = true) (p q n : Int) (h0 : 0 ≤ p) (h1 : p ≤ 900000) (hn : 1 ≤ n) (hn1 : n ≤ 1000000) : ∃ b p' q', spec_l1Cur_one.f l p q n = some (b, p', q') ∧ 0 ≤ p' ∧ p' ≤ p + 2 := by
  obtain ⟨v, p1, q1, e1, a1, a2, a3, a4⟩ := pick_ok hl p q n h0 h1 hn hn1
  unfold spec_l1Cur_one.f
  rw [e1]
  exact ⟨_, _, _, rfl, a3, a4⟩

/-! Draws. -/
theorem tool_ok {l : List Int} (hw : ∀ y ∈ l, (Lit.int .u8 y).wf = true) (p q a : Int) (h0 : 0 ≤ p) (h1 : p ≤ 800000) {k : Nat} (hk : 1 ≤ k) : ∃ i kd z s p' q', spec_l1Cur_tool.f k l p q a = some (i, kd, z, s, p', q') ∧ 0 ≤ p' ∧ p' ≤ p + 12 := by
  obtain ⟨k, rfl⟩ : ∃ m, k = m + 1 := ⟨k - 1, by omega⟩
  have hj : ∀ (p q i kd z s : Int), 0 ≤ p → p ≤ 800100 → ∃ i' kd' z' s' p' q', spec_l1Cur_tool.j0 (k + 1) l p q i kd z s = some (i', kd', z', s', p', q') ∧ 0 ≤ p' ∧ p' ≤ p + 4 := by
    intro p q i kd z s h0 h1
    obtain ⟨v, p1, q1, e1, a1, a2, a3, a4⟩ := pick_ok hw p q 50 h0 (by omega) (by omega) (by omega)
    simp only [spec_l1Cur_tool.j0, e1, Option.bind_some]
    split
    · obtain ⟨v2, p2, q2, e2, _, b2, b3⟩ := among_ok hw p1 q1 [0, 99, 100] a3 (by omega) (by decide) (by decide) (P := fun _ => True) (fun _ _ => trivial)
      rw [e2]; exact ⟨_, _, _, _, _, _, rfl, b2, show p2 ≤ p + 4 by omega⟩
    · split
      · obtain ⟨v2, p2, q2, e2, _, b2, b3⟩ := among_ok hw p1 q1 [(-1), 3] a3 (by omega) (by decide) (by decide) (P := fun _ => True) (fun _ _ => trivial)
        rw [e2]; exact ⟨_, _, _, _, _, _, rfl, b2, show p2 ≤ p + 4 by omega⟩
      · split
        · obtain ⟨v2, p2, q2, e2, _, b2, b3⟩ := among_ok hw p1 q1 [(-51), 51] a3 (by omega) (by decide) (by decide) (P := fun _ => True) (fun _ _ => trivial)
          rw [e2]; exact ⟨_, _, _, _, _, _, rfl, b2, show p2 ≤ p + 4 by omega⟩
        · split
          · obtain ⟨v2, p2, q2, e2, _, b2, b3⟩ := among_ok hw p1 q1 [899, 1001, 1101] a3 (by omega) (by decide) (by decide) (P := fun _ => True) (fun _ _ => trivial)
            rw [e2]; exact ⟨_, _, _, _, _, _, rfl, b2, show p2 ≤ p + 4 by omega⟩
          · exact ⟨_, _, _, _, _, _, rfl, a3, show p1 ≤ p + 4 by omega⟩
  unfold spec_l1Cur_tool.f
  obtain ⟨v, p1, q1, e1, a1, a2, a3, a4⟩ := pick_ok hw p q 3 h0 (by omega) (by omega) (by omega)
  obtain ⟨v2, p2, q2, e2, _, b2, b3⟩ := among_ok hw p1 q1 [(-50), (-2), 0, 0, 1, 3, 50] a3 (by omega) (by decide) (by decide) (P := fun _ => True) (fun _ _ => trivial)
  rw [e1]
  simp only [Option.bind_some]
  rw [e2]
  simp only [Option.bind_some]
  split
  · obtain ⟨v3, p3, q3, e3, _, c2, c3⟩ := among_ok hw p2 q2 [900, 995, 1000, 1010, 1100] b2 (by omega) (by decide) (by decide) (P := fun _ => True) (fun _ _ => trivial)
    rw [e3]
    simp only [Option.bind_some]
    obtain ⟨i, kd, z, s, p4, q4, e4, d1, d2⟩ := hj p3 q3 a v v2 v3 c2 (by omega)
    exact ⟨i, kd, z, s, p4, q4, e4, d1, by omega⟩
  · obtain ⟨i, kd, z, s, p4, q4, e4, d1, d2⟩ := hj p2 q2 a v v2 1000 b2 (by omega)
    exact ⟨i, kd, z, s, p4, q4, e4, d1, by omega⟩
theorem r3_mem (kd : Int) : ∀ x ∈ r3List kd, -91 ≤ x ∧ x ≤ 1001 := by
  unfold r3List
  split
  · decide
  · split <;> decide
theorem r3_len (kd : Int) : (r3List kd).length = 8 := by
  unfold r3List
  split
  · rfl
  · split <;> rfl
theorem reading3_ok {l : List Int} (hw : ∀ y ∈ l, (Lit.int .u8 y).wf = true) (p q kd : Int) (h0 : 0 ≤ p) (h1 : p ≤ 850000) : ∃ v p' q', spec_l1Cur_reading3.f l p q kd = some (v, p', q') ∧ (-91 ≤ v ∧ v ≤ 1001) ∧ 0 ≤ p' ∧ p' ≤ p + 4 := by
  unfold spec_l1Cur_reading3.f
  obtain ⟨v, p1, q1, e1, a1, a2, a3, a4⟩ := pick_ok hw p q 24 h0 (by omega) (by omega) (by omega)
  rw [e1]
  simp only [Option.bind_some]
  rw [if_pos ⟨a1, a2⟩]
  have ht : Int.tdiv v 11 = v / 11 := Int.tdiv_eq_ediv_of_nonneg a1
  have hn : 6 ≤ (6 + Int.tdiv v 11).toNat := by rw [ht]; omega
  have hl2 : ((r3List kd).take (6 + Int.tdiv v 11).toNat).length = min (6 + Int.tdiv v 11).toNat 8 := by rw [List.length_take, r3_len]
  obtain ⟨v2, p2, q2, e2, b1, b2, b3⟩ := among_ok hw p1 q1 ((r3List kd).take (6 + Int.tdiv v 11).toNat) a3 (by omega) (by rw [hl2]; omega) (by rw [hl2]; omega) (P := fun x => -91 ≤ x ∧ x ≤ 1001) (fun x hx => r3_mem kd x (List.mem_of_mem_take hx))
  exact ⟨v2, p2, q2, e2, b1, b2, by omega⟩
theorem chk1_ok {l : List Int} (hw : ∀ y ∈ l, (Lit.int .u8 y).wf = true) : ∀ (d k : Nat) (o : List S46) (p q : Int), 0 ≤ p → p + 2 * d ≤ 800000 → 11 ≤ o.length + d → o.length ≤ 11 → d + 1 ≤ k → ∃ r p' q', spec_l1Cur_checks.l1 k o l p q = some (r, p', q') ∧ r.length ≤ 11
  | 0, k, o, p, q, h0, h1, h2, h3, hk => by
    obtain ⟨k, rfl⟩ : ∃ m, k = m + 1 := ⟨k - 1, by omega⟩
    obtain ⟨v, p1, q1, e1, a1, a2, a3, a4⟩ := pick_ok hw p q 2 h0 (by omega) (by omega) (by omega)
    simp only [spec_l1Cur_checks.l1, e1, Option.bind_some]
    rw [w64 (x := 10 + v) (by omega) (by omega), if_neg (by omega)]
    exact ⟨_, _, _, rfl, h3⟩
  | d + 1, k, o, p, q, h0, h1, h2, h3, hk => by
    obtain ⟨k, rfl⟩ : ∃ m, k = m + 1 := ⟨k - 1, by omega⟩
    obtain ⟨v, p1, q1, e1, a1, a2, a3, a4⟩ := pick_ok hw p q 2 h0 (by omega) (by omega) (by omega)
    simp only [spec_l1Cur_checks.l1, e1, Option.bind_some]
    rw [w64 (x := 10 + v) (by omega) (by omega)]
    by_cases c : (o.length : Int) < 10 + v
    · rw [if_pos c, if_pos (by omega)]
      exact chk1_ok hw d k (o ++ [⟨50, 51⟩]) p1 q1 a3 (by omega) (by simp; omega) (by simp; omega) (by omega)
    · rw [if_neg c]
      exact ⟨_, _, _, rfl, h3⟩
theorem chk0_ok {l : List Int} (hw : ∀ y ∈ l, (Lit.int .u8 y).wf = true) (i kd z s : Int) : ∀ (d k : Nat) (o : List S46) (p q : Int), 0 ≤ p → p + 20 * d ≤ 700000 → o.length + d ≤ 4 → d + 20 ≤ k → ∃ r p' q', spec_l1Cur_checks.l0 k o (d : Int) l p q i kd z s = some (r, p', q') ∧ r.length ≤ 11
  | 0, k, o, p, q, h0, h1, h2, hk => by
    obtain ⟨k, rfl⟩ : ∃ m, k = m + 1 := ⟨k - 1, by omega⟩
    obtain ⟨v, p1, q1, e1, a1, a2, a3, a4⟩ := pick_ok hw p q 40 h0 (by omega) (by omega) (by omega)
    have c0 : ¬ ((0 : Nat) : Int) > 0 := by omega
    have c1 : 0 ≤ (o.length : Int) := by omega
    simp only [spec_l1Cur_checks.l0, if_neg c0, e1, Option.bind_some, if_pos c1]
    split
    · exact ⟨_, _, _, rfl, by simp⟩
    · split
      · exact chk1_ok hw 11 k o p1 q1 a3 (by omega) (by omega) (by omega) (by omega)
      · exact ⟨_, _, _, rfl, by omega⟩
  | d + 1, k, o, p, q, h0, h1, h2, hk => by
    obtain ⟨k, rfl⟩ : ∃ m, k = m + 1 := ⟨k - 1, by omega⟩
    obtain ⟨v, p1, q1, e1, a1, a2, a3⟩ := reading3_ok hw p q kd h0 (by omega)
    obtain ⟨v2, p2, q2, e2, b1, b2, b3⟩ := among_ok hw p1 q1 [(-3), (-1), 0, 1, 2] a2 (by omega) (by decide) (by decide) (P := fun x => -3 ≤ x ∧ x ≤ 2) (by decide)
    obtain ⟨v3, p3, q3, e3, c1, c2⟩ := one_ok hw p2 q2 20 b2 (by omega) (by omega) (by omega)
    have c0 : ((d + 1 : Nat) : Int) > 0 := by omega
    have ew : wrap64 (((d + 1 : Nat) : Int) - 1) = (d : Int) := (w64 (by omega) (by omega)).trans (by omega)
    have cl : o.length < 8796093022208 := by omega
    have rec1 : ∀ (x : S46) (p q : Int), 0 ≤ p → p + 20 * d ≤ 700000 → ∃ r p' q', spec_l1Cur_checks.l0 k (o ++ [x]) (d : Int) l p q i kd z s = some (r, p', q') ∧ r.length ≤ 11 := fun x p q g0 g1 => chk0_ok hw i kd z s d k (o ++ [x]) p q g0 g1 (by simp; omega) (by omega)
    simp only [spec_l1Cur_checks.l0, if_pos c0, e1, Option.bind_some, e2, l3Reading_eq, if_pos cl, ew, e3]
    split
    · exact rec1 _ _ _ b2 (by omega)
    · split
      · exact rec1 _ _ _ c1 (by omega)
      · exact rec1 _ _ _ c1 (by omega)
theorem drawCR_ok {l : List Int} (hw : ∀ y ∈ l, (Lit.int .u8 y).wf = true) {k : Nat} (hk : 1 ≤ k) : ∃ i kd z s r, spec_DrawCorrectReading.f k l = some (i, kd, z, s, r) := by
  unfold spec_DrawCorrectReading.f spec_DrawCorrectReading_in.f
  obtain ⟨i, kd, z, s, p1, q1, e1, a1, a2⟩ := tool_ok hw 0 0 1 (by omega) (by omega) hk
  obtain ⟨v, p2, q2, e2, _⟩ := reading3_ok hw p1 q1 kd a1 (by omega)
  exact ⟨i, kd, z, s, v, by rw [e1]; simp only [Option.bind_some]; rw [e2]; rfl⟩
theorem drawCE_ok {l : List Int} (hw : ∀ y ∈ l, (Lit.int .u8 y).wf = true) {k : Nat} (hk : 1 ≤ k) : ∃ i kd z s r t, spec_DrawCheckError.f k l = some (i, kd, z, s, r, t) := by
  unfold spec_DrawCheckError.f spec_DrawCheckError_in.f
  obtain ⟨i, kd, z, s, p1, q1, e1, a1, a2⟩ := tool_ok hw 0 0 1 (by omega) (by omega) hk
  obtain ⟨v, p2, q2, e2, _, b1, b2⟩ := reading3_ok hw p1 q1 kd a1 (by omega)
  obtain ⟨v2, p3, q3, e3, _⟩ := reading3_ok hw p2 q2 kd b1 (by omega)
  exact ⟨i, kd, z, s, v, v2, by rw [e1]; simp only [Option.bind_some]; rw [e2]; simp only [Option.bind_some]; rw [e3]; rfl⟩
theorem drawFZ_ok {l : List Int} (hw : ∀ y ∈ l, (Lit.int .u8 y).wf = true) {k : Nat} (hk : 30 ≤ k) : ∃ i kd z s cs, spec_DrawWorstCheck.f k l = some (i, kd, z, s, cs) ∧ cs.length ≤ 11 := by
  unfold spec_DrawWorstCheck.f spec_DrawWorstCheck_in.f spec_l1Cur_checks.f
  obtain ⟨i, kd, z, s, p1, q1, e1, a1, a2⟩ := tool_ok hw 0 0 1 (by omega) (by omega) (show 1 ≤ k by omega)
  obtain ⟨v, p2, q2, e2, b1, b2, b3, b4⟩ := pick_ok hw p1 q1 4 a1 (by omega) (by omega) (by omega)
  obtain ⟨r, p3, q3, e3, c1⟩ := chk0_ok hw i kd z s (1 + v).toNat k [] p2 q2 b3 (by omega) (by simp; omega) (by omega)
  rw [show (((1 + v).toNat : Nat) : Int) = 1 + v by omega] at e3
  refine ⟨i, kd, z, s, r, ?_, c1⟩
  rw [e1]; simp only [Option.bind_some]; rw [e2]; simp only [Option.bind_some]
  rw [w64 (x := 1 + v) (by omega) (by omega), e3]; rfl
/-! What the law asks. -/
def wcR (b : Bool) (o : Option (Int × Int)) : Int × Int × Bool := if b = true then (match o with | some p => (p.1, p.2, true) | none => (0, 0, false)) else (0, 0, false)
theorem WC_full (i kd z s : Int) (l : List S46) (hl : l.length ≤ 140737488351232) : ∃ b : Bool, (∀ k, l.length + 2 < k → spec_WorstCheck.f k i kd z s l = some (wcR b (wo i kd z s l)) ∧ impl_WorstCheck.f k i kd z s l = some (wcR b (wo i kd z s l))) ∧ (b = true ↔ ckFrom kd l 0 ∧ vTool i kd z s = true ∧ 1 ≤ l.length ∧ l.length ≤ 10) := by
  obtain ⟨b, hb, hiff⟩ := checks_eq i kd z s l hl
  refine ⟨b, fun k hk => ?_, hiff⟩
  obtain ⟨e1, e2⟩ := hb k (by omega)
  unfold spec_WorstCheck.f impl_WorstCheck.f wcR
  rw [e1, e2]
  simp only [Option.bind_some]
  cases b with
  | false => exact ⟨by simp, by simp⟩
  | true =>
    obtain ⟨_, hv, h1, _⟩ := hiff.mp rfl
    have hn : l ≠ [] := by intro h; subst h; simp at h1
    simp only [if_true]
    rw [specWorst_eq i kd z s l hn hl hk, implWorst_eq hv l hl hk]
    simp only [Option.bind_some]
    cases hw : wo i kd z s l with
    | none => exact ⟨by simp, by simp⟩
    | some p =>
      have hp := wo_nonneg hn hw
      refine ⟨?_, by simp⟩
      simp only [Option.getD_some]
      rw [if_neg (by omega)]
theorem wf_all (e : S46 → Int × Bool) : ∀ (xs : List S46) (n b m : Int) (p : Int × Int), wf e xs n b m = some p → (∀ x ∈ xs, (e x).2 = true ∧ ab (e x).1 ≤ p.2) ∧ m ≤ p.2
  | [], n, b, m, p, h => by
    simp only [wf, Option.some.injEq] at h
    subst h
    exact ⟨fun x hx => (List.not_mem_nil hx).elim, Int.le_refl _⟩
  | y :: ys, n, b, m, p, h => by
    simp only [wf] at h
    by_cases c : (e y).2 = true
    · rw [if_pos c] at h
      by_cases c2 : ab (e y).1 > m
      · rw [if_pos c2] at h
        obtain ⟨i1, i2⟩ := wf_all e ys _ _ _ p h
        refine ⟨fun x hx => ?_, by omega⟩
        rcases List.mem_cons.mp hx with rfl | hx
        · exact ⟨c, i2⟩
        · exact i1 x hx
      · rw [if_neg c2] at h
        obtain ⟨i1, i2⟩ := wf_all e ys _ _ _ p h
        refine ⟨fun x hx => ?_, i2⟩
        rcases List.mem_cons.mp hx with rfl | hx
        · exact ⟨c, by omega⟩
        · exact i1 x hx
    · rw [if_neg c] at h
      cases h
theorem RB_found {i kd z s c r : Int} (hv : vTool i kd z s = true) (hr : rdB kd r = true) (hc : crP kd z s r = c) (hcc : rdB kd c = true) (d : Nat) : ∀ (k : Nat) (n : Int), -90 ≤ n → r - n = d → d + 4 < k →
    ∃ r', impl_ReadBack.l0 k c n i kd z s = some (r', true) ∧ r' ≤ r ∧ rdB kd r' = true ∧ crP kd z s r' = c := by
  have hwd := rdB_wide hr
  induction d with
  | zero =>
    intro k n h0 hd hk
    obtain ⟨k, rfl⟩ : ∃ m, k = m + 1 := ⟨k - 1, by omega⟩
    obtain rfl : n = r := by omega
    have hle : n ≤ 1000 := by omega
    refine ⟨n, ?_, Int.le_refl _, hr, hc⟩
    simp only [impl_ReadBack.l0, if_pos hle, correct_eq (show 2 ≤ k by omega) hv hr, Option.bind_some]
    rw [hc, hcc, if_pos rfl, if_pos rfl]
  | succ d ih =>
    intro k n h0 hd hk
    obtain ⟨k, rfl⟩ : ∃ m, k = m + 1 := ⟨k - 1, by omega⟩
    have hle : n ≤ 1000 := by omega
    have ew : wrap64 (n + 1) = n + 1 := w64 (by omega) (by omega)
    obtain ⟨r', e, h⟩ := ih k (n + 1) (by omega) (by omega) (by omega)
    simp only [impl_ReadBack.l0, if_pos hle, ew]
    cases hrn : rdB kd n with
    | false =>
      simp only [correct_no k hrn, Option.bind_some, Bool.false_eq_true, if_false]
      exact ⟨r', e, h⟩
    | true =>
      simp only [correct_eq (show 2 ≤ k by omega) hv hrn, Option.bind_some]
      by_cases e2 : crP kd z s n = c
      · refine ⟨n, ?_, by omega, hrn, e2⟩
        rw [e2, hcc, if_pos rfl, if_pos rfl]
      · rw [if_neg e2]
        refine ⟨r', ?_, h⟩
        split
        · exact e
        · exact e
section
variable {l : List Int} (hw : ∀ y ∈ l, (Lit.int .u8 y).wf = true)
include hw
theorem l0_ok {i kd z s far : Int} {cs : List S46} (hall : ∀ x ∈ cs, (erOf i kd z s x).2 = true ∧ ab (erOf i kd z s x).1 ≤ far) (hl : cs.length ≤ 11) (d : Nat) : ∀ (k n : Nat), n + d = cs.length → d + 4 < k → laws_FnTools.l0 k l cs far (n : Int) i kd z s = some true := by
  induction d with
  | zero =>
    intro k n hd hk
    obtain ⟨k, rfl⟩ : ∃ m, k = m + 1 := ⟨k - 1, by omega⟩
    obtain ⟨i', kd', z', s', r', t', e⟩ := drawCE_ok hw (show 1 ≤ k by omega)
    have c1 : ¬ (n : Int) < (cs.length : Int) := by omega
    simp only [laws_FnTools.l0, if_neg c1, e, Option.bind_some, implCE_eq (show 2 ≤ k by omega), spec_CheckError.f, specErr_eq (show 2 ≤ k by omega), if_true, beq_self_eq_true]
  | succ d ih =>
    intro k n hd hk
    obtain ⟨k, rfl⟩ : ∃ m, k = m + 1 := ⟨k - 1, by omega⟩
    have c1 : (n : Int) < (cs.length : Int) := by omega
    have c2 : 0 ≤ (n : Int) := by omega
    have ew : wrap64 ((n : Int) + 1) = ((n + 1 : Nat) : Int) := (w64 (by omega) (by omega)).trans (by omega)
    have hn : n < cs.length := by omega
    have er : rd_T46 cs (n : Int) = cs[n] := by simp [rd_T46, hn]
    obtain ⟨g1, g2⟩ := hall cs[n] (List.getElem_mem hn)
    have hb : -1090 ≤ (erOf i kd z s cs[n]).1 ∧ (erOf i kd z s cs[n]).1 ≤ 1090 := erR_bound
    have hx : erR i kd z s cs[n].f0 cs[n].f1 = erOf i kd z s cs[n] := rfl
    simp only [laws_FnTools.l0, if_pos c1, if_pos c2, er, implCE_eq (show 2 ≤ k by omega), Option.bind_some, ew, hx, if_pos g1]
    unfold ab at g2
    have k1 : ¬ (erOf i kd z s cs[n]).1 > far := by split at g2 <;> omega
    have k2 : ¬ wrap64 (-(erOf i kd z s cs[n]).1) > far := by
      rw [w64 (by omega) (by omega)]
      split at g2 <;> omega
    rw [if_neg k1, if_neg k2]
    exact ih k (n + 1) (by omega) (by omega)
theorem j3_no {k : Nat} (hk : 2 ≤ k) (cs : List S46) (a : Bool) (far i kd z s i2 kd2 z2 s2 : Int) : laws_FnTools.j3 (k + 1) l cs a far false false i kd z s i2 kd2 z2 s2 = some true := by
  obtain ⟨i', kd', z', s', r', t', e⟩ := drawCE_ok hw (show 1 ≤ k by omega)
  simp only [laws_FnTools.j3, Bool.false_eq_true, if_false, e, Option.bind_some, implCE_eq hk, spec_CheckError.f, specErr_eq hk, if_true, beq_self_eq_true]
theorem j1_ok {k : Nat} (hk : 300 ≤ k) : laws_FnTools.j1 (k + 4) l = some true := by
  obtain ⟨i, kd, z, s, cs, e, hl⟩ := drawFZ_ok hw (show 30 ≤ k + 3 by omega)
  obtain ⟨q, hq, hfit⟩ := FZ_eq i kd z s cs (by omega)
  obtain ⟨q1, q2⟩ := hq (k + 3) (by omega)
  obtain ⟨b, hwc, hiff⟩ := WC_full i kd z s cs (by omega)
  obtain ⟨w1, w2⟩ := hwc (k + 2) (by omega)
  simp only [laws_FnTools.j1, spec_DrawFitZero.f, e, Option.bind_some, q1, q2, beq_self_eq_true, Bool.not_true, Bool.or_self, Bool.false_eq_true, if_false, bne_self_eq_false]
  simp only [laws_FnTools.j2, Bool.false_eq_true, if_false, w1, w2, Option.bind_some, if_true, bne_self_eq_false]
  cases hb : b with
  | false =>
    exact j3_no hw (by omega) _ _ _ _ _ _ _ _ _ _ _
  | true =>
    obtain ⟨hck, hv, n1, n10⟩ := hiff.mp hb
    have hn : cs ≠ [] := by intro h; subst h; simp at n1
    unfold wcR
    rw [if_pos rfl]
    cases ho : wo i kd z s cs with
    | none => exact j3_no hw (by omega) _ _ _ _ _ _ _ _ _ _ _
    | some p =>
      rcases hfit with ⟨_, _, _, _, rfl⟩ | ⟨h, _⟩
      case inr => exact absurd ⟨hck, hv, n1, n10⟩ h
      obtain ⟨i1, i2, _, i4⟩ := fitL_best (woOf cs) (fun x p h => (wo_nonneg hn h).2) (zts i kd s 101 (-50)) ⟨0, 0, 0, 0⟩ (-1) (.inl (by omega))
      obtain ⟨F, hF⟩ : ∃ F, fitL (woOf cs) (zts i kd s 101 (-50)) ⟨0, 0, 0, 0⟩ (-1) = F := ⟨_, rfl⟩
      rw [hF] at i1 i2 i4 ⊢
      have hvt := vTool_true hv
      obtain ⟨f1, f2⟩ := i4 ⟨i, kd, z, s⟩ ((zts_mem i kd s 101 (-50) _).mpr ⟨z, by omega, by omega, rfl⟩) p ho
      obtain ⟨p', g1, g2⟩ := i1.resolve_left (by omega)
      obtain ⟨y, y0, y1, hy⟩ := (zts_mem i kd s 101 (-50) _).mp (i2.resolve_left (by omega))
      obtain ⟨F1, F2⟩ := F
      simp only [] at *
      subst hy
      have hvy : vTool i kd y s = true := decide_eq_true (by clear i1 i2 i4 hiff hwc hq; omega)
      obtain ⟨b', hwc', hiff'⟩ := WC_full i kd y s cs (by omega)
      obtain ⟨_, w2'⟩ := hwc' (k + 1) (by omega)
      have hb' : b' = true := hiff'.mpr ⟨hck, hvy, n1, n10⟩
      have g1' : wo i kd y s cs = some p' := g1
      rw [g1', hb'] at w2'
      have hall := (wf_all (erOf i kd z s) cs 0 0 (-1) p ho).1
      have d1 : decide (p'.2 > p.2) = false := decide_eq_false (by have a1 : p'.2 = F2 := g2; have a2 : F2 ≤ p.2 := f2; clear i1 i2 i4 hiff hiff' hwc hwc' hq; omega)
      have d2 : decide (F2 ≥ 0) = true := decide_eq_true (by omega)
      simp only [fitOut, laws_FnTools.j3, Bool.false_eq_true, if_false, if_true, w2', Option.bind_some, wcR, d1, d2, laws_FnTools.j4]
      exact l0_ok hw hall hl cs.length k 0 (by omega) (by omega)
theorem j0_ok {k : Nat} (hk : 1300 ≤ k) (i kd z s r : Int) : laws_FnTools.j0 (k + 5) l r (crR i kd z s r).1 (crR i kd z s r).2 false i kd z s = some true := by
  simp only [laws_FnTools.j0, Bool.false_eq_true, if_false]
  unfold crR
  by_cases h : (vTool i kd z s && rdB kd r && rdB kd (crP kd z s r)) = true
  · rw [if_pos h]
    simp only [Bool.and_eq_true] at h
    obtain ⟨⟨hv, hr⟩, hc⟩ := h
    have hwd := rdB_wide hr
    obtain ⟨r', e1, e2, e3, e4⟩ := RB_found hv hr rfl hc (r + 90).toNat (k + 4) (-90) (by omega) (by omega) (by omega)
    have eb : impl_ReadBack.f (k + 4) i kd z s (crP kd z s r) = some (r', true) := by
      unfold impl_ReadBack.f
      rw [isTool_eq (by omega)]
      simp only [Option.bind_some, hv, if_true]
      exact e1
    have ec : crR i kd z s r' = (crP kd z s r, true) := by
      unfold crR
      rw [e4, hv, e3, hc]
      rfl
    simp only [if_true, eb, Option.bind_some, implCR_eq (show 2 ≤ k + 4 by omega), ec]
    rw [if_neg (by omega)]
    exact j1_ok hw (by omega)
  · rw [if_neg h]
    simp only [Bool.false_eq_true, if_false]
    exact j1_ok hw (by omega)
end
theorem FnTools : Asked := by
  intro l hl hw
  refine ⟨2005, ?_⟩
  unfold laws_FnTools.f laws_rBig.f
  simp only [Option.bind_some]
  by_cases c : (l.length : Int) > 65536
  · simp [c]
  · obtain ⟨i, kd, z, s, r, e⟩ := drawCR_ok hw (show 1 ≤ 2005 by omega)
    simp only [decide_eq_true_eq, if_neg c, e, Option.bind_some, implCR_eq (show 2 ≤ 2005 by omega), specCR_eq (show 2 ≤ 2005 by omega), if_true, bne_self_eq_false, Bool.false_eq_true, if_false, isTool_eq (show 1 ≤ 2005 by omega), spec_IsTool.f, l3One_eq]
    exact j0_ok hw (show 1300 ≤ 2000 by omega) i kd z s r
end Go.Proofs.Ytpfmhoikhnhdcaa.Pure
