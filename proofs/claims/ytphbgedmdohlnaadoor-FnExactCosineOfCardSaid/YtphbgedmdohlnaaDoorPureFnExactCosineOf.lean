/- The pure statement of the law of CosineOf: true for every integer; no condition. -/
import Derived.Test.YtphbgedmdohlnaaDoorAskFnExactCosineOf
namespace Go.Proofs.YtphbgedmdohlnaaDoor.Pure
open Go.RowKit Go.Proofs.YtphbgedmdohlnaaDoor.XFnExactCosineOf Go.Proofs.YtphbgedmdohlnaaDoor.AskFnExactCosineOf Go.Proofs.YtphbgedmdohlnaaDoorW.PrintWords Go.Proofs.YtphbgedmdohlnaaDoorW.PrintLast
set_option linter.unusedVariables false
set_option linter.unusedSimpArgs false

theorem l1In_eq (a b c : Int) : spec_l1In.f a b c = some (decide (b ≤ a ∧ a ≤ c)) := by
  unfold spec_l1In.f
  by_cases h : a ≥ b
  · rw [if_pos h]
    have h' : b ≤ a := h
    simp [h']
  · rw [if_neg h]
    have h' : ¬ b ≤ a := h
    simp [h']

theorem within_eq (a b c : Int) : impl_within.f a b c = some (decide (b ≤ a ∧ a ≤ c)) := by
  unfold impl_within.f
  by_cases h : a ≥ b
  · rw [if_pos h]
    have h' : b ≤ a := h
    simp [h']
  · rw [if_neg h]
    have h' : ¬ b ≤ a := h
    simp [h']

theorem w64 {x : Int} (h0 : -9223372036854775808 ≤ x) (h1 : x ≤ 9223372036854775807) : wrap64 x = x := by
  unfold wrap64
  omega

theorem td {x y : Int} (h : 0 ≤ x) : Int.tdiv x y = x / y := Int.tdiv_eq_ediv_of_nonneg h
theorem tm {x y : Int} (h : 0 ≤ x) : Int.tmod x y = x % y := Int.tmod_eq_emod_of_nonneg h

/-- An entry of the table. -/
def T_ (i : Int) : Int := sineTab.getD i.toNat 0
/-- The sine of any angle. -/
def sn (d : Int) : Int := if d % 360 ≤ 90 then T_ (d % 360) else if d % 360 ≤ 180 then T_ (180 - d % 360) else if d % 360 ≤ 270 then -T_ (d % 360 - 180) else -T_ (360 - d % 360)
theorem T_bound (i : Int) : 0 ≤ T_ i ∧ T_ i ≤ 1000 := by
  have h : ∀ x ∈ sineTab, 0 ≤ x ∧ x ≤ 1000 := by decide
  unfold T_
  rw [List.getD_eq_getElem?_getD]
  cases e : sineTab[i.toNat]? with
  | none => simp
  | some x => exact h x (List.mem_of_getElem? e)
theorem sn_bound (d : Int) : -1000 ≤ sn d ∧ sn d ≤ 1000 := by
  unfold sn
  have h1 := T_bound (d % 360)
  have h2 := T_bound (180 - d % 360)
  have h3 := T_bound (d % 360 - 180)
  have h4 := T_bound (360 - d % 360)
  split
  · omega
  · split
    · omega
    · split <;> omega
theorem md_eq (x : Int) : Int.tmod (wrap64 (Int.tmod x 360 + 360)) 360 = x % 360 := by
  by_cases h : 0 ≤ x
  · have e0 : Int.tmod x 360 = x % 360 := tm h
    have e1 : wrap64 (x % 360 + 360) = x % 360 + 360 := w64 (by omega) (by omega)
    rw [e0, e1, tm (x := x % 360 + 360) (by omega)]
    omega
  · have e0 : Int.tmod x 360 = -(-x % 360) := by
      have h := Int.neg_tmod (-x) 360
      rw [Int.neg_neg, tm (x := -x) (by omega)] at h
      exact h
    have e1 : wrap64 (-(-x % 360) + 360) = -(-x % 360) + 360 := w64 (by omega) (by omega)
    rw [e0, e1, tm (x := -(-x % 360) + 360) (by omega)]
    omega
theorem table_at {i : Int} (h0 : 0 ≤ i) (h1 : i < 91) : (spec_l2Table.f).bind (fun t => if 0 ≤ i then (if i < (t.length : Int) then some (rd t i) else none) else none) = some (T_ i) := by
  unfold spec_l2Table.f
  simp only [Option.bind_some]
  rw [if_pos h0, if_pos (by simpa using h1)]
  rfl
theorem table_neg {i : Int} (h0 : 0 ≤ i) (h1 : i < 91) : (spec_l2Table.f).bind (fun t => if 0 ≤ i then (if i < (t.length : Int) then some (wrap64 (-(rd t i))) else none) else none) = some (-T_ i) := by
  have hb := T_bound i
  unfold spec_l2Table.f
  simp only [Option.bind_some]
  rw [if_pos h0, if_pos (by simpa using h1)]
  exact congrArg some (w64 (x := -T_ i) (by omega) (by omega))
theorem specSine_eq (d : Int) : spec_l2Sine.f d = some (sn d) := by
  unfold spec_l2Sine.f sn
  rw [md_eq]
  have h0 : 0 ≤ d % 360 := by omega
  have h1 : d % 360 < 360 := by omega
  generalize d % 360 = m at *
  have e1 : wrap64 (180 - m) = 180 - m := w64 (by omega) (by omega)
  have e2 : wrap64 (m - 180) = m - 180 := w64 (by omega) (by omega)
  have e3 : wrap64 (360 - m) = 360 - m := w64 (by omega) (by omega)
  rw [e1, e2, e3]
  by_cases c1 : m ≤ 90
  · rw [if_pos c1, if_pos c1]; exact table_at h0 (by omega)
  · rw [if_neg c1, if_neg c1]
    by_cases c2 : m ≤ 180
    · rw [if_pos c2, if_pos c2]; exact table_at (by omega) (by omega)
    · rw [if_neg c2, if_neg c2]
      by_cases c3 : m ≤ 270
      · rw [if_pos c3, if_pos c3]; exact table_neg (by omega) (by omega)
      · rw [if_neg c3, if_neg c3]; exact table_neg (by omega) (by omega)
theorem implSine_eq (d : Int) : impl_sine.f d = some (sn d) := by
  unfold impl_sine.f impl_modulo.f sn
  rw [if_neg (by omega), md_eq]
  simp only [Option.bind_some]
  have h0 : 0 ≤ d % 360 := by omega
  have h1 : d % 360 < 360 := by omega
  generalize d % 360 = m at *
  have b1 := T_bound (m - 180)
  have b2 := T_bound (360 - m)
  rw [if_pos ⟨h0, h1⟩]
  by_cases c1 : m ≤ 90
  · rw [if_pos (by omega), if_pos c1]; unfold sineLow; rw [if_pos c1]; rfl
  · rw [if_neg c1]
    by_cases c2 : m ≤ 180
    · rw [if_pos c2, if_pos c2]; unfold sineLow; rw [if_neg c1]; rfl
    · rw [if_neg c2, if_neg c2]
      by_cases c3 : m ≤ 270
      · have e : sineLow (m - 180) = T_ (m - 180) := by unfold sineLow; rw [if_pos (by omega)]; rfl
        rw [if_pos c3, e, w64 (x := -T_ (m - 180)) (by omega) (by omega)]
      · have e : sineLow (m - 180) = T_ (360 - m) := by unfold sineLow; rw [if_neg (by omega), show 180 - (m - 180) = 360 - m by omega]; rfl
        rw [if_neg c3, e, w64 (x := -T_ (360 - m)) (by omega) (by omega)]

theorem specCos_eq {d : Int} (h0 : -1000000 ≤ d) (h1 : d ≤ 1000000) : spec_l2Cosine.f d = some (sn (d + 90)) := by
  unfold spec_l2Cosine.f
  rw [w64 (x := d + 90) (by omega) (by omega), specSine_eq]
  rfl
theorem implCos_eq {d : Int} (h0 : -1000000 ≤ d) (h1 : d ≤ 1000000) : impl_cosine.f d = some (sn (d + 90)) := by
  unfold impl_cosine.f
  rw [w64 (x := d + 90) (by omega) (by omega), implSine_eq]
  rfl

theorem FnExactCosineOf : Asked := by
  intro d _
  unfold laws_FnExactCosineOf.f spec_CosineOf.f impl_CosineOf.f spec_l2Angle.f impl_isAngle.f
  simp only [l1In_eq, within_eq, Option.bind_some]
  by_cases c : -3600 ≤ d ∧ d ≤ 3600
  · simp [c, specCos_eq (d := d) (by omega) (by omega), implCos_eq (d := d) (by omega) (by omega)]
  · simp [c]
end Go.Proofs.YtphbgedmdohlnaaDoor.Pure
