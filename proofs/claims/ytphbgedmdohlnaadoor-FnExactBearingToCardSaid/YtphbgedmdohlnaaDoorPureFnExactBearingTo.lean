/- The pure statement of the law of BearingTo: true for every two integers; no condition. -/
import Derived.Test.YtphbgedmdohlnaaDoorAskFnExactBearingTo
namespace Go.Proofs.YtphbgedmdohlnaaDoor.Pure
open Go.RowKit Go.Proofs.YtphbgedmdohlnaaDoor.XFnExactBearingTo Go.Proofs.YtphbgedmdohlnaaDoor.AskFnExactBearingTo Go.Proofs.YtphbgedmdohlnaaDoorW.PrintWords Go.Proofs.YtphbgedmdohlnaaDoorW.PrintLast
set_option linter.unusedVariables false
set_option linter.unusedSimpArgs false

theorem l1In_eq (a b c : Int) : spec_l1In.f a b c = some (decide (b ≤ a ∧ a ≤ c)) := by
  unfold spec_l1In.f
  by_cases h : a ≥ b
  · rw [if_pos h]
    have h' : b ≤ a := h
    simp [h']
  · rw [if_neg h]
    have h' : ¬ b ≤ a := h
    simp [h']

theorem within_eq (a b c : Int) : impl_within.f a b c = some (decide (b ≤ a ∧ a ≤ c)) := by
  unfold impl_within.f
  by_cases h : a ≥ b
  · rw [if_pos h]
    have h' : b ≤ a := h
    simp [h']
  · rw [if_neg h]
    have h' : ¬ b ≤ a := h
    simp [h']

theorem w64 {x : Int} (h0 : -9223372036854775808 ≤ x) (h1 : x ≤ 9223372036854775807) : wrap64 x = x := by
  unfold wrap64
  omega

theorem td {x y : Int} (h : 0 ≤ x) : Int.tdiv x y = x / y := Int.tdiv_eq_ediv_of_nonneg h
theorem tm {x y : Int} (h : 0 ≤ x) : Int.tmod x y = x % y := Int.tmod_eq_emod_of_nonneg h

/-- An entry of the table. -/
def T_ (i : Int) : Int := sineTab.getD i.toNat 0
/-- The sine of any angle. -/
def sn (d : Int) : Int := if d % 360 ≤ 90 then T_ (d % 360) else if d % 360 ≤ 180 then T_ (180 - d % 360) else if d % 360 ≤ 270 then -T_ (d % 360 - 180) else -T_ (360 - d % 360)
theorem T_bound (i : Int) : 0 ≤ T_ i ∧ T_ i ≤ 1000 := by
  have h : ∀ x ∈ sineTab, 0 ≤ x ∧ x ≤ 1000 := by decide
  unfold T_
  rw [List.getD_eq_getElem?_getD]
  cases e : sineTab[i.toNat]? with
  | none => simp
  | some x => exact h x (List.mem_of_getElem? e)
theorem sn_bound (d : Int) : -1000 ≤ sn d ∧ sn d ≤ 1000 := by
  unfold sn
  have h1 := T_bound (d % 360)
  have h2 := T_bound (180 - d % 360)
  have h3 := T_bound (d % 360 - 180)
  have h4 := T_bound (360 - d % 360)
  split
  · omega
  · split
    · omega
    · split <;> omega
theorem md_eq (x : Int) : Int.tmod (wrap64 (Int.tmod x 360 + 360)) 360 = x % 360 := by
  by_cases h : 0 ≤ x
  · have e0 : Int.tmod x 360 = x % 360 := tm h
    have e1 : wrap64 (x % 360 + 360) = x % 360 + 360 := w64 (by omega) (by omega)
    rw [e0, e1, tm (x := x % 360 + 360) (by omega)]
    omega
  · have e0 : Int.tmod x 360 = -(-x % 360) := by
      have h := Int.neg_tmod (-x) 360
      rw [Int.neg_neg, tm (x := -x) (by omega)] at h
      exact h
    have e1 : wrap64 (-(-x % 360) + 360) = -(-x % 360) + 360 := w64 (by omega) (by omega)
    rw [e0, e1, tm (x := -(-x % 360) + 360) (by omega)]
    omega
theorem table_at {i : Int} (h0 : 0 ≤ i) (h1 : i < 91) : (spec_l2Table.f).bind (fun t => if 0 ≤ i then (if i < (t.length : Int) then some (rd t i) else none) else none) = some (T_ i) := by
  unfold spec_l2Table.f
  simp only [Option.bind_some]
  rw [if_pos h0, if_pos (by simpa using h1)]
  rfl
theorem table_neg {i : Int} (h0 : 0 ≤ i) (h1 : i < 91) : (spec_l2Table.f).bind (fun t => if 0 ≤ i then (if i < (t.length : Int) then some (wrap64 (-(rd t i))) else none) else none) = some (-T_ i) := by
  have hb := T_bound i
  unfold spec_l2Table.f
  simp only [Option.bind_some]
  rw [if_pos h0, if_pos (by simpa using h1)]
  exact congrArg some (w64 (x := -T_ i) (by omega) (by omega))
theorem specSine_eq (d : Int) : spec_l2Sine.f d = some (sn d) := by
  unfold spec_l2Sine.f sn
  rw [md_eq]
  have h0 : 0 ≤ d % 360 := by omega
  have h1 : d % 360 < 360 := by omega
  generalize d % 360 = m at *
  have e1 : wrap64 (180 - m) = 180 - m := w64 (by omega) (by omega)
  have e2 : wrap64 (m - 180) = m - 180 := w64 (by omega) (by omega)
  have e3 : wrap64 (360 - m) = 360 - m := w64 (by omega) (by omega)
  rw [e1, e2, e3]
  by_cases c1 : m ≤ 90
  · rw [if_pos c1, if_pos c1]; exact table_at h0 (by omega)
  · rw [if_neg c1, if_neg c1]
    by_cases c2 : m ≤ 180
    · rw [if_pos c2, if_pos c2]; exact table_at (by omega) (by omega)
    · rw [if_neg c2, if_neg c2]
      by_cases c3 : m ≤ 270
      · rw [if_pos c3, if_pos c3]; exact table_neg (by omega) (by omega)
      · rw [if_neg c3, if_neg c3]; exact table_neg (by omega) (by omega)
theorem implSine_eq (d : Int) : impl_sine.f d = some (sn d) := by
  unfold impl_sine.f impl_modulo.f sn
  rw [if_neg (by omega), md_eq]
  simp only [Option.bind_some]
  have h0 : 0 ≤ d % 360 := by omega
  have h1 : d % 360 < 360 := by omega
  generalize d % 360 = m at *
  have b1 := T_bound (m - 180)
  have b2 := T_bound (360 - m)
  rw [if_pos ⟨h0, h1⟩]
  by_cases c1 : m ≤ 90
  · rw [if_pos (by omega), if_pos c1]; unfold sineLow; rw [if_pos c1]; rfl
  · rw [if_neg c1]
    by_cases c2 : m ≤ 180
    · rw [if_pos c2, if_pos c2]; unfold sineLow; rw [if_neg c1]; rfl
    · rw [if_neg c2, if_neg c2]
      by_cases c3 : m ≤ 270
      · have e : sineLow (m - 180) = T_ (m - 180) := by unfold sineLow; rw [if_pos (by omega)]; rfl
        rw [if_pos c3, e, w64 (x := -T_ (m - 180)) (by omega) (by omega)]
      · have e : sineLow (m - 180) = T_ (360 - m) := by unfold sineLow; rw [if_neg (by omega), show 180 - (m - 180) = 360 - m by omega]; rfl
        rw [if_neg c3, e, w64 (x := -T_ (360 - m)) (by omega) (by omega)]

theorem specCos_eq {d : Int} (h0 : -1000000 ≤ d) (h1 : d ≤ 1000000) : spec_l2Cosine.f d = some (sn (d + 90)) := by
  unfold spec_l2Cosine.f
  rw [w64 (x := d + 90) (by omega) (by omega), specSine_eq]
  rfl
theorem implCos_eq {d : Int} (h0 : -1000000 ≤ d) (h1 : d ≤ 1000000) : impl_cosine.f d = some (sn (d + 90)) := by
  unfold impl_cosine.f
  rw [w64 (x := d + 90) (by omega) (by omega), implSine_eq]
  rfl

/-- What a bearing is worth. -/
def bval (e n b : Int) : Int := wrap64 (wrap64 (e * sn b) + wrap64 (n * sn (b + 90)))
theorem bearing_loops (e n : Int) (d : Nat) : ∀ (k : Nat) (b o : Int), b + d = 360 → 1 ≤ b → 0 ≤ o → o < 360 → d < k →
    ∃ r, spec_BearingTo.l0 k e n o b = some (r, true) ∧ impl_bearingTo.l0 k e n o (bval e n o) b = some r ∧ 0 ≤ r ∧ r < 360 ∧ bval e n o ≤ bval e n r ∧ ∀ j, b ≤ j → j < 360 → bval e n j ≤ bval e n r := by
  induction d with
  | zero =>
    intro k b o hb h1 h0 h2 hk
    obtain ⟨k, rfl⟩ : ∃ m, k = m + 1 := ⟨k - 1, by omega⟩
    refine ⟨o, ?_, ?_, h0, h2, Int.le_refl _, fun j g1 g2 => by omega⟩
    · simp only [spec_BearingTo.l0]; rw [if_neg (by omega)]
    · simp only [impl_bearingTo.l0]; rw [if_neg (by omega)]
  | succ d ih =>
    intro k b o hb h1 h0 h2 hk
    obtain ⟨k, rfl⟩ : ∃ m, k = m + 1 := ⟨k - 1, by omega⟩
    have ew : wrap64 (b + 1) = b + 1 := w64 (by omega) (by omega)
    have c1 : b < 360 := by omega
    have c2 : ¬ b = 0 := by omega
    have ev : wrap64 (wrap64 (e * sn b) + wrap64 (n * sn (b + 90))) = bval e n b := rfl
    have eo : wrap64 (wrap64 (e * sn o) + wrap64 (n * sn (o + 90))) = bval e n o := rfl
    simp only [spec_BearingTo.l0, impl_bearingTo.l0, if_pos c1, if_neg c2, specSine_eq, implSine_eq, specCos_eq (show -1000000 ≤ b by omega) (show b ≤ 1000000 by omega), specCos_eq (show -1000000 ≤ o by omega) (show o ≤ 1000000 by omega), implCos_eq (show -1000000 ≤ b by omega) (show b ≤ 1000000 by omega), Option.bind_some, ew, ev, eo]
    by_cases c : bval e n b > bval e n o
    · obtain ⟨r, i1, i2, i3, i4, i5, i6⟩ := ih k (b + 1) b (by omega) (by omega) (by omega) (by omega) (by omega)
      refine ⟨r, by rw [if_pos c]; exact i1, by rw [if_pos c]; exact i2, i3, i4, by omega, fun j g1 g2 => ?_⟩
      by_cases hj : j = b
      · subst hj; exact i5
      · exact i6 j (by omega) g2
    · obtain ⟨r, i1, i2, i3, i4, i5, i6⟩ := ih k (b + 1) o (by omega) (by omega) (by omega) (by omega) (by omega)
      refine ⟨r, by rw [if_neg c]; exact i1, by rw [if_neg c]; exact i2, i3, i4, i5, fun j g1 g2 => ?_⟩
      by_cases hj : j = b
      · subst hj; omega
      · exact i6 j (by omega) g2
theorem bearing_eq (e n : Int) : ∃ r, (∀ k, 365 < k → spec_BearingTo.f k e n = some r ∧ impl_BearingTo.f k e n = some r) ∧
    ((¬ ((-100000 ≤ e ∧ e ≤ 100000) ∧ (-100000 ≤ n ∧ n ≤ 100000) ∧ (e ≠ 0 ∨ n ≠ 0)) ∧ r = (0, false)) ∨ (((-100000 ≤ e ∧ e ≤ 100000) ∧ (-100000 ≤ n ∧ n ≤ 100000) ∧ (e ≠ 0 ∨ n ≠ 0)) ∧ r.2 = true ∧ 0 ≤ r.1 ∧ r.1 < 360 ∧ ∀ j, 0 ≤ j → j < 360 → bval e n j ≤ bval e n r.1)) := by
  unfold spec_BearingTo.f impl_BearingTo.f spec_l2Long.f impl_isLength.f
  simp only [l1In_eq, within_eq, Option.bind_some]
  by_cases h : (-100000 ≤ e ∧ e ≤ 100000) ∧ (-100000 ≤ n ∧ n ≤ 100000) ∧ (e ≠ 0 ∨ n ≠ 0)
  · obtain ⟨ce, cn, cz⟩ := h
    obtain ⟨r, e1, _, i3, i4, i5, i6⟩ := bearing_loops e n 359 360 1 0 (by omega) (by omega) (by omega) (by omega) (by omega)
    refine ⟨(r, true), fun k hk => ?_, .inr ⟨⟨ce, cn, cz⟩, rfl, i3, i4, fun j g1 g2 => ?_⟩⟩
    · have same : ∀ k, 359 < k → spec_BearingTo.l0 k e n 0 1 = some (r, true) ∧ impl_bearingTo.l0 k e n 0 (bval e n 0) 1 = some r := by
        intro k hk
        obtain ⟨r', e3, e4, _⟩ := bearing_loops e n 359 k 1 0 (by omega) (by omega) (by omega) (by omega) hk
        have m3 := at_rounds (fun k => (spec_BearingTo.mono_l k).2 e n 0 1) (show 360 ≤ max k 360 by omega) e1
        have m4 := at_rounds (fun k => (spec_BearingTo.mono_l k).2 e n 0 1) (show k ≤ max k 360 by omega) e3
        rw [m3] at m4
        have : r = r' := by simpa using m4
        subst this
        exact ⟨e3, e4⟩
      obtain ⟨k, rfl⟩ : ∃ m, k = m + 1 := ⟨k - 1, by omega⟩
      have hi : impl_bearingTo.f (k + 1) e n = some r := by
        unfold impl_bearingTo.f
        simp only [impl_bearingTo.l0]
        rw [if_pos (by omega), implSine_eq, implCos_eq (by omega) (by omega)]
        simp only [Option.bind_some, if_true]
        rw [show wrap64 (0 + 1) = 1 from w64 (by omega) (by omega)]
        exact (same k (by omega)).2
      have hs : spec_BearingTo.j0 (k + 1) e n false = some (r, true) := by
        simp only [spec_BearingTo.j0, Bool.false_eq_true, if_false]
        exact (same k (by omega)).1
      rw [hi]
      simp only [ce, cn, and_self, decide_true, if_true, Option.bind_some]
      by_cases z : e = 0
      · have zn : ¬ n = 0 := by omega
        rw [if_pos z, if_pos z, if_neg zn, show (n == 0) = false by simp [zn], hs]
        exact ⟨rfl, rfl⟩
      · rw [if_neg z, if_neg z, hs]
        exact ⟨rfl, rfl⟩
    · by_cases hj : j = 0
      · subst hj; exact i5
      · exact i6 j (by omega) g2
  · refine ⟨(0, false), fun k hk => ?_, .inl ⟨h, rfl⟩⟩
    obtain ⟨k, rfl⟩ : ∃ m, k = m + 1 := ⟨k - 1, by omega⟩
    by_cases ce : -100000 ≤ e ∧ e ≤ 100000
    · by_cases cn : -100000 ≤ n ∧ n ≤ 100000
      · have z : e = 0 ∧ n = 0 := by
          constructor
          · exact Decidable.byContradiction fun hz => h ⟨ce, cn, .inl hz⟩
          · exact Decidable.byContradiction fun hz => h ⟨ce, cn, .inr hz⟩
        obtain ⟨rfl, rfl⟩ := z
        simp [spec_BearingTo.j0]
      · simp [ce, cn, spec_BearingTo.j0]
    · simp [ce, spec_BearingTo.j0]

theorem FnExactBearingTo : Asked := by
  intro e n _ _
  obtain ⟨r, h, _⟩ := bearing_eq e n
  refine ⟨400, ?_⟩
  unfold laws_FnExactBearingTo.f
  simp only [(h 400 (by omega)).1, (h 400 (by omega)).2, Option.bind_some]
  simp
end Go.Proofs.YtphbgedmdohlnaaDoor.Pure
