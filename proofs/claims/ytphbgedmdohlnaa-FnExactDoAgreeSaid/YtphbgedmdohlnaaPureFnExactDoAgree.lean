/- The pure statement of the law of DoAgree: true for every two legs and two numbers; no condition. -/
import Derived.Test.YtphbgedmdohlnaaAskFnExactDoAgree
namespace Go.Proofs.Ytphbgedmdohlnaa.Pure
open Go.RowKit Go.Proofs.Ytphbgedmdohlnaa.PFnExactDoAgree Go.Proofs.Ytphbgedmdohlnaa.AskFnExactDoAgree Go.Proofs.YtphbgedmdohlnaaW.PrintWords Go.Proofs.YtphbgedmdohlnaaW.PrintLast
set_option linter.unusedVariables false
set_option linter.unusedSimpArgs false

theorem l1In_eq (a b c : Int) : spec_l1In.f a b c = some (decide (b ≤ a ∧ a ≤ c)) := by
  unfold spec_l1In.f
  by_cases h : a ≥ b
  · rw [if_pos h]
    have h' : b ≤ a := h
    simp [h']
  · rw [if_neg h]
    have h' : ¬ b ≤ a := h
    simp [h']

theorem beqd (a b : Int) : (a == b) = decide (a = b) := by by_cases h : a = b <;> simp [h]

def vLeg (f t tp c s : Int) : Bool := decide ((0 ≤ f ∧ f ≤ 7) ∧ (0 ≤ t ∧ t ≤ 7) ∧ f ≠ t ∧ (1 ≤ tp ∧ tp ≤ 500) ∧ (0 ≤ c ∧ c ≤ 359) ∧ (-90 ≤ s ∧ s ≤ 90))

theorem l4Leg_eq (f t tp c s : Int) : spec_l4Leg.f f t tp c s = some (vLeg f t tp c s) := by
  unfold spec_l4Leg.f spec_l4Station.f spec_l2Bearing.f vLeg
  simp only [l1In_eq, Option.bind_some, decide_eq_true_eq]
  repeat' split
  all_goals first | exact congrArg some (decide_eq_decide.mpr (by omega)) | exact congrArg some (decide_eq_false (by omega)).symm

theorem within_eq (a b c : Int) : impl_within.f a b c = some (decide (b ≤ a ∧ a ≤ c)) := by
  unfold impl_within.f
  by_cases h : a ≥ b
  · rw [if_pos h]
    have h' : b ≤ a := h
    simp [h']
  · rw [if_neg h]
    have h' : ¬ b ≤ a := h
    simp [h']

theorem isLeg_eq (f t tp c s : Int) : impl_IsLeg.f f t tp c s = some (vLeg f t tp c s) := by
  unfold impl_IsLeg.f impl_isStation.f impl_isBearing.f vLeg
  simp only [within_eq, Option.bind_some, decide_eq_true_eq]
  repeat' split
  all_goals first | exact congrArg some (decide_eq_decide.mpr (by omega)) | exact congrArg some (decide_eq_false (by omega)).symm

theorem w64 {x : Int} (h0 : -9223372036854775808 ≤ x) (h1 : x ≤ 9223372036854775807) : wrap64 x = x := by
  unfold wrap64
  omega

theorem td {x y : Int} (h : 0 ≤ x) : Int.tdiv x y = x / y := Int.tdiv_eq_ediv_of_nonneg h
theorem tm {x y : Int} (h : 0 ≤ x) : Int.tmod x y = x % y := Int.tmod_eq_emod_of_nonneg h

theorem turn_eq {a b : Int} (ha : 0 ≤ a ∧ a ≤ 359) (hb : 0 ≤ b ∧ b ≤ 359) : ∃ t, spec_TurnBetween.f a b = some (t, true) ∧ impl_turn.f a b = some t := by
  unfold spec_TurnBetween.f spec_l2Bearing.f
  rw [l1In_eq, l1In_eq]
  simp only [Option.bind_some, ha, hb, and_self, decide_true, if_true]
  have e1 : wrap64 (a - b) = a - b := w64 (by omega) (by omega)
  have e2 : wrap64 (a - b + 360) = a - b + 360 := w64 (by omega) (by omega)
  have e3 : wrap64 (-(a - b)) = -(a - b) := w64 (by omega) (by omega)
  have e4 : Int.tmod (a - b + 360) 360 = (a - b + 360) % 360 := tm (by omega)
  have e5 : wrap64 (360 - (a - b + 360) % 360) = 360 - (a - b + 360) % 360 := w64 (by omega) (by omega)
  have hm : 0 ≤ mx (a - b) (-(a - b)) ∧ mx (a - b) (-(a - b)) ≤ 359 ∧ (mx (a - b) (-(a - b)) = a - b ∨ mx (a - b) (-(a - b)) = -(a - b)) := by unfold mx; omega
  have e6 : wrap64 (360 - mx (a - b) (-(a - b))) = 360 - mx (a - b) (-(a - b)) := w64 (by omega) (by omega)
  unfold spec_l1Least.f impl_turn.f impl_absolute.f
  simp only [e1, e2, e3, e4, e5, Option.bind_some, e6]
  generalize mx (a - b) (-(a - b)) = m at *
  have key : mn m (360 - m) = if (a - b + 360) % 360 < 360 - (a - b + 360) % 360 then (a - b + 360) % 360 else 360 - (a - b + 360) % 360 := by
    unfold mn; omega
  refine ⟨_, ?_, rfl⟩
  rw [key]
  split <;> rfl
theorem dist_eq {x y : Int} (hx : -100000 ≤ x ∧ x ≤ 100000) (hy : -100000 ≤ y ∧ y ≤ 100000) : ∃ t, spec_l1Most.f (wrap64 (x - y)) (wrap64 (y - x)) = some t ∧ impl_absolute.f (wrap64 (x - y)) = some t := by
  unfold spec_l1Most.f impl_absolute.f
  rw [w64 (x := x - y) (by omega) (by omega), w64 (x := y - x) (by omega) (by omega), w64 (x := -(x - y)) (by omega) (by omega)]
  refine ⟨_, ?_, rfl⟩
  unfold mx
  split <;> exact congrArg some (by omega)

theorem tail_eq {k : Nat} {a0 a1 a2 a3 a4 b0 b1 b2 b3 b4 dg tp : Int} (ha : vLeg a0 a1 a2 a3 a4 = true) (h3 : 0 ≤ b3 ∧ b3 ≤ 359) (h2 : 1 ≤ b2 ∧ b2 ≤ 500) (h4 : -90 ≤ b4 ∧ b4 ≤ 90) (e0 : a0 = b0) (e1 : a1 = b1) :
    ∃ r, spec_DoAgree.j2 (k + 2) dg tp a0 a1 a2 a3 a4 b0 b1 b2 b3 b4 = some (r, true) ∧
      ((impl_turn.f a3 b3).bind fun t146 => (if t146 ≤ dg then ((impl_absolute.f (wrap64 (a4 - b4))).bind fun t147 => (if t147 ≤ dg then ((impl_absolute.f (wrap64 (a2 - b2))).bind fun t148 => (some (decide (t148 ≤ tp)))) else (some false))) else (some false))) = some r := by
  have va := of_decide_eq_true ha
  obtain ⟨t, ht1, ht2⟩ := turn_eq (a := a3) (b := b3) (by omega) h3
  obtain ⟨p, hp1, hp2⟩ := dist_eq (x := a4) (y := b4) (by omega) (by omega)
  obtain ⟨q, hq1, hq2⟩ := dist_eq (x := a2) (y := b2) (by omega) (by omega)
  subst e0 e1
  simp only [spec_DoAgree.j2, spec_DoAgree.j3, bne_self_eq_false, Bool.false_eq_true, if_false, if_true, ht1, ht2, hp1, hp2, hq1, hq2, Option.bind_some]
  by_cases c1 : t ≤ dg
  · by_cases c2 : p ≤ dg
    · exact ⟨decide (q ≤ tp), by simp [c1, c2], by simp [c1, c2]⟩
    · exact ⟨false, by simp [c1, c2], by simp [c1, c2]⟩
  · exact ⟨false, by simp [c1], by simp [c1]⟩
theorem agree_eq (a0 a1 a2 a3 a4 b0 b1 b2 b3 b4 dg tp : Int) : ∃ r, spec_DoAgree.f 9 a0 a1 a2 a3 a4 b0 b1 b2 b3 b4 dg tp = some r ∧ impl_DoAgree.f a0 a1 a2 a3 a4 b0 b1 b2 b3 b4 dg tp = some r := by
  unfold spec_DoAgree.f impl_DoAgree.f
  simp only [l4Leg_eq, isLeg_eq, Option.bind_some]
  cases ha : vLeg a0 a1 a2 a3 a4 with
  | false => exact ⟨(false, false), by simp [spec_DoAgree.j0], by simp⟩
  | true =>
    cases hb : vLeg b0 b1 b2 b3 b4 with
    | false => exact ⟨(false, false), by simp [spec_DoAgree.j0], by simp⟩
    | true =>
      have va := of_decide_eq_true ha
      have vb := of_decide_eq_true hb
      by_cases h1 : dg < 0
      · exact ⟨(false, false), by simp [h1, spec_DoAgree.j0], by simp [h1]⟩
      · by_cases h2 : tp < 0
        · exact ⟨(false, false), by simp [h1, h2, spec_DoAgree.j0], by simp [h1, h2]⟩
        · simp only [if_true, if_neg h1, if_neg h2, decide_eq_false h2, spec_DoAgree.j0, Bool.false_eq_true, if_false]
          by_cases r : a0 = b1 ∧ a1 = b0
          · obtain ⟨r0, r1⟩ := r
            have n0 : ¬ a0 = b0 := by omega
            have n0' : ¬ b0 = a0 := by omega
            have ec : Int.tmod (wrap64 (b3 + 180)) 360 = (b3 + 180) % 360 := by rw [w64 (by omega) (by omega), tm (by omega)]
            have es : wrap64 (-b4) = -b4 := w64 (by omega) (by omega)
            obtain ⟨q, g1, g2⟩ := tail_eq (k := 5) (b0 := b1) (b1 := b0) (b2 := b2) (b3 := (b3 + 180) % 360) (b4 := -b4) (dg := dg) (tp := tp) ha (by omega) (by omega) (by omega) r0 r1
            refine ⟨(q, true), ?_, ?_⟩
            · rw [if_pos r0, show (a1 == b0) = true by simp [r1]]
              simp only [spec_DoAgree.j1, if_true, spec_l4Reverse.f, Option.bind_some, ec, es]
              exact g1
            · unfold impl_joins.f impl_agree.f impl_Leg_reverse.f impl_back.f
              rw [if_neg n0, if_pos r0, show (a1 == b0) = true by simp [r1], if_neg n0']
              simp only [Option.bind_some, if_true, ec, es]
              rw [g2]
              rfl
          · have ej : ∀ k, (if a0 = b1 then spec_DoAgree.j1 k dg tp (a1 == b0) a0 a1 a2 a3 a4 b0 b1 b2 b3 b4 else spec_DoAgree.j1 k dg tp false a0 a1 a2 a3 a4 b0 b1 b2 b3 b4) = spec_DoAgree.j1 k dg tp false a0 a1 a2 a3 a4 b0 b1 b2 b3 b4 := by
              intro k
              by_cases c : a0 = b1
              · rw [if_pos c, show (a1 == b0) = false by rw [beqd]; exact decide_eq_false (fun h => r ⟨c, h⟩)]
              · rw [if_neg c]
            rw [ej]
            simp only [spec_DoAgree.j1, Bool.false_eq_true, if_false]
            by_cases s : a0 = b0 ∧ a1 = b1
            · obtain ⟨s0, s1⟩ := s
              obtain ⟨q, g1, g2⟩ := tail_eq (k := 5) (b0 := b0) (b1 := b1) (b2 := b2) (b3 := b3) (b4 := b4) (dg := dg) (tp := tp) ha (by omega) (by omega) (by omega) s0 s1
              refine ⟨(q, true), g1, ?_⟩
              unfold impl_joins.f impl_agree.f
              rw [if_pos s0, if_pos s1, if_pos s0.symm]
              simp only [Option.bind_some, if_true]
              rw [g2]
              rfl
            · refine ⟨(false, false), ?_, ?_⟩
              · simp only [spec_DoAgree.j2]
                by_cases c : a0 = b0
                · rw [if_pos c, show (a1 != b1) = true by rw [bne, beqd, decide_eq_false (fun h => s ⟨c, h⟩)]; rfl]
                  simp [spec_DoAgree.j3]
                · rw [if_neg c]
                  simp [spec_DoAgree.j3]
              · unfold impl_joins.f
                by_cases c : a0 = b0
                · rw [if_pos c, if_neg (fun h => s ⟨c, h⟩), if_neg (by omega)]
                  rfl
                · rw [if_neg c]
                  by_cases c2 : a0 = b1
                  · rw [if_pos c2, show (a1 == b0) = false by rw [beqd]; exact decide_eq_false (fun h => r ⟨c2, h⟩)]
                    rfl
                  · rw [if_neg c2]
                    rfl
theorem FnExactDoAgree : Asked := by
  intro a0 a1 a2 a3 a4 b0 b1 b2 b3 b4 dg tp _ _ _ _ _ _ _ _ _ _ _ _
  obtain ⟨r, e1, e2⟩ := agree_eq a0 a1 a2 a3 a4 b0 b1 b2 b3 b4 dg tp
  refine ⟨9, ?_⟩
  unfold laws_FnExactDoAgree.f laws_toLeg.f
  simp only [Option.bind_some, e1, e2]
  simp
end Go.Proofs.Ytphbgedmdohlnaa.Pure
