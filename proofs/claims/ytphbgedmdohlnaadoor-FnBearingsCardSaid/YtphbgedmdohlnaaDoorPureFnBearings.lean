/- The pure statement of the law FnBearings: true for every string of bytes; no condition but the slice's reach. -/
import Derived.Test.YtphbgedmdohlnaaDoorAskFnBearings
namespace Go.Proofs.YtphbgedmdohlnaaDoor.Pure
open Go.RowKit Go.Proofs.YtphbgedmdohlnaaDoor.XFnBearings Go.Proofs.YtphbgedmdohlnaaDoor.AskFnBearings Go.Proofs.YtphbgedmdohlnaaDoorW.PrintWords Go.Proofs.YtphbgedmdohlnaaDoorW.PrintLast
set_option linter.unusedVariables false
set_option linter.unusedSimpArgs false

theorem w64 {x : Int} (h0 : -9223372036854775808 ≤ x) (h1 : x ≤ 9223372036854775807) : wrap64 x = x := by
  unfold wrap64
  omega

theorem td {x y : Int} (h : 0 ≤ x) : Int.tdiv x y = x / y := Int.tdiv_eq_ediv_of_nonneg h
theorem tm {x y : Int} (h : 0 ≤ x) : Int.tmod x y = x % y := Int.tmod_eq_emod_of_nonneg h

/-- An entry of the table. -/
def T_ (i : Int) : Int := sineTab.getD i.toNat 0
/-- The sine of any angle. -/
def sn (d : Int) : Int := if d % 360 ≤ 90 then T_ (d % 360) else if d % 360 ≤ 180 then T_ (180 - d % 360) else if d % 360 ≤ 270 then -T_ (d % 360 - 180) else -T_ (360 - d % 360)
theorem T_bound (i : Int) : 0 ≤ T_ i ∧ T_ i ≤ 1000 := by
  have h : ∀ x ∈ sineTab, 0 ≤ x ∧ x ≤ 1000 := by decide
  unfold T_
  rw [List.getD_eq_getElem?_getD]
  cases e : sineTab[i.toNat]? with
  | none => simp
  | some x => exact h x (List.mem_of_getElem? e)
theorem sn_bound (d : Int) : -1000 ≤ sn d ∧ sn d ≤ 1000 := by
  unfold sn
  have h1 := T_bound (d % 360)
  have h2 := T_bound (180 - d % 360)
  have h3 := T_bound (d % 360 - 180)
  have h4 := T_bound (360 - d % 360)
  split
  · omega
  · split
    · omega
    · split <;> omega
theorem md_eq (x : Int) : Int.tmod (wrap64 (Int.tmod x 360 + 360)) 360 = x % 360 := by
  by_cases h : 0 ≤ x
  · have e0 : Int.tmod x 360 = x % 360 := tm h
    have e1 : wrap64 (x % 360 + 360) = x % 360 + 360 := w64 (by omega) (by omega)
    rw [e0, e1, tm (x := x % 360 + 360) (by omega)]
    omega
  · have e0 : Int.tmod x 360 = -(-x % 360) := by
      have h := Int.neg_tmod (-x) 360
      rw [Int.neg_neg, tm (x := -x) (by omega)] at h
      exact h
    have e1 : wrap64 (-(-x % 360) + 360) = -(-x % 360) + 360 := w64 (by omega) (by omega)
    rw [e0, e1, tm (x := -(-x % 360) + 360) (by omega)]
    omega
theorem table_at {i : Int} (h0 : 0 ≤ i) (h1 : i < 91) : (spec_l2Table.f).bind (fun t => if 0 ≤ i then (if i < (t.length : Int) then some (rd t i) else none) else none) = some (T_ i) := by
  unfold spec_l2Table.f
  simp only [Option.bind_some]
  rw [if_pos h0, if_pos (by simpa using h1)]
  rfl
theorem table_neg {i : Int} (h0 : 0 ≤ i) (h1 : i < 91) : (spec_l2Table.f).bind (fun t => if 0 ≤ i then (if i < (t.length : Int) then some (wrap64 (-(rd t i))) else none) else none) = some (-T_ i) := by
  have hb := T_bound i
  unfold spec_l2Table.f
  simp only [Option.bind_some]
  rw [if_pos h0, if_pos (by simpa using h1)]
  exact congrArg some (w64 (x := -T_ i) (by omega) (by omega))
theorem specSine_eq (d : Int) : spec_l2Sine.f d = some (sn d) := by
  unfold spec_l2Sine.f sn
  rw [md_eq]
  have h0 : 0 ≤ d % 360 := by omega
  have h1 : d % 360 < 360 := by omega
  generalize d % 360 = m at *
  have e1 : wrap64 (180 - m) = 180 - m := w64 (by omega) (by omega)
  have e2 : wrap64 (m - 180) = m - 180 := w64 (by omega) (by omega)
  have e3 : wrap64 (360 - m) = 360 - m := w64 (by omega) (by omega)
  rw [e1, e2, e3]
  by_cases c1 : m ≤ 90
  · rw [if_pos c1, if_pos c1]; exact table_at h0 (by omega)
  · rw [if_neg c1, if_neg c1]
    by_cases c2 : m ≤ 180
    · rw [if_pos c2, if_pos c2]; exact table_at (by omega) (by omega)
    · rw [if_neg c2, if_neg c2]
      by_cases c3 : m ≤ 270
      · rw [if_pos c3, if_pos c3]; exact table_neg (by omega) (by omega)
      · rw [if_neg c3, if_neg c3]; exact table_neg (by omega) (by omega)
theorem implSine_eq (d : Int) : impl_sine.f d = some (sn d) := by
  unfold impl_sine.f impl_modulo.f sn
  rw [if_neg (by omega), md_eq]
  simp only [Option.bind_some]
  have h0 : 0 ≤ d % 360 := by omega
  have h1 : d % 360 < 360 := by omega
  generalize d % 360 = m at *
  have b1 := T_bound (m - 180)
  have b2 := T_bound (360 - m)
  rw [if_pos ⟨h0, h1⟩]
  by_cases c1 : m ≤ 90
  · rw [if_pos (by omega), if_pos c1]; unfold sineLow; rw [if_pos c1]; rfl
  · rw [if_neg c1]
    by_cases c2 : m ≤ 180
    · rw [if_pos c2, if_pos c2]; unfold sineLow; rw [if_neg c1]; rfl
    · rw [if_neg c2, if_neg c2]
      by_cases c3 : m ≤ 270
      · have e : sineLow (m - 180) = T_ (m - 180) := by unfold sineLow; rw [if_pos (by omega)]; rfl
        rw [if_pos c3, e, w64 (x := -T_ (m - 180)) (by omega) (by omega)]
      · have e : sineLow (m - 180) = T_ (360 - m) := by unfold sineLow; rw [if_neg (by omega), show 180 - (m - 180) = 360 - m by omega]; rfl
        rw [if_neg c3, e, w64 (x := -T_ (360 - m)) (by omega) (by omega)]

theorem specCos_eq {d : Int} (h0 : -1000000 ≤ d) (h1 : d ≤ 1000000) : spec_l2Cosine.f d = some (sn (d + 90)) := by
  unfold spec_l2Cosine.f
  rw [w64 (x := d + 90) (by omega) (by omega), specSine_eq]
  rfl
theorem implCos_eq {d : Int} (h0 : -1000000 ≤ d) (h1 : d ≤ 1000000) : impl_cosine.f d = some (sn (d + 90)) := by
  unfold impl_cosine.f
  rw [w64 (x := d + 90) (by omega) (by omega), implSine_eq]
  rfl

theorem sn_360 (d : Int) : sn (d + 360) = sn d := by
  unfold sn
  have e : (d + 360) % 360 = d % 360 := by omega
  rw [e]
theorem T_0 : T_ 0 = 0 := by decide
theorem T_180 : T_ 90 = 1000 := by decide
theorem sn_neg (d : Int) : sn (-d) = -sn d := by
  unfold sn
  have h0 : 0 ≤ d % 360 := by omega
  have h1 : d % 360 < 360 := by omega
  by_cases z : d % 360 = 0
  · have e : -d % 360 = 0 := by omega
    rw [e, z]
    decide
  · have e : -d % 360 = 360 - d % 360 := by omega
    rw [e]
    generalize d % 360 = m at *
    by_cases c1 : m < 90
    · have a1 : ¬ 360 - m ≤ 90 := by omega
      have a2 : ¬ 360 - m ≤ 180 := by omega
      have a3 : ¬ 360 - m ≤ 270 := by omega
      have a4 : m ≤ 90 := by omega
      have a5 : 360 - (360 - m) = m := by omega
      simp only [if_neg a1, if_neg a2, if_neg a3, if_pos a4, a5]
    · by_cases c2 : m = 90
      · subst c2; decide
      · by_cases c3 : m < 180
        · have a1 : ¬ 360 - m ≤ 90 := by omega
          have a2 : ¬ 360 - m ≤ 180 := by omega
          have a3 : 360 - m ≤ 270 := by omega
          have a4 : ¬ m ≤ 90 := by omega
          have a6 : m ≤ 180 := by omega
          have a5 : 360 - m - 180 = 180 - m := by omega
          simp only [if_neg a1, if_neg a2, if_pos a3, if_neg a4, if_pos a6, a5]
        · by_cases c4 : m = 180
          · subst c4; decide
          · by_cases c5 : m < 270
            · have a1 : ¬ 360 - m ≤ 90 := by omega
              have a2 : 360 - m ≤ 180 := by omega
              have a4 : ¬ m ≤ 90 := by omega
              have a6 : ¬ m ≤ 180 := by omega
              have a7 : m ≤ 270 := by omega
              have a5 : 180 - (360 - m) = m - 180 := by omega
              simp only [if_neg a1, if_pos a2, if_neg a4, if_neg a6, if_pos a7, a5, Int.neg_neg]
            · by_cases c6 : m = 270
              · subst c6; decide
              · have a1 : 360 - m ≤ 90 := by omega
                have a4 : ¬ m ≤ 90 := by omega
                have a6 : ¬ m ≤ 180 := by omega
                have a7 : ¬ m ≤ 270 := by omega
                simp only [if_pos a1, if_neg a4, if_neg a6, if_neg a7, Int.neg_neg]
theorem sn_mod (d : Int) : sn d = sn (d % 360) := by
  unfold sn
  have e : d % 360 % 360 = d % 360 := by omega
  rw [e]
theorem sn_circle_table : ∀ i : Fin 360, 998000 ≤ sn (i : Nat) * sn (i : Nat) + sn ((i : Nat) + 90) * sn ((i : Nat) + 90) ∧ sn (i : Nat) * sn (i : Nat) + sn ((i : Nat) + 90) * sn ((i : Nat) + 90) ≤ 1002000 := by decide +kernel
theorem sn_circle (d : Int) : 998000 ≤ sn d * sn d + sn (d + 90) * sn (d + 90) ∧ sn d * sn d + sn (d + 90) * sn (d + 90) ≤ 1002000 := by
  have h0 : 0 ≤ d % 360 := by omega
  have h1 : d % 360 < 360 := by omega
  have h := sn_circle_table ⟨(d % 360).toNat, by omega⟩
  have e : (((d % 360).toNat : Nat) : Int) = d % 360 := Int.toNat_of_nonneg h0
  have e2 : sn (d + 90) = sn (d % 360 + 90) := by
    rw [sn_mod (d + 90), sn_mod (d % 360 + 90)]
    have e : (d % 360 + 90) % 360 = (d + 90) % 360 := by omega
    rw [e]
  rw [sn_mod d, e2]
  simpa only [e] using h

theorem prod_bound {x s : Int} (hx : -100000 ≤ x ∧ x ≤ 100000) (hs : -1000 ≤ s ∧ s ≤ 1000) : -100000000 ≤ x * s ∧ x * s ≤ 100000000 := by
  have key : ∀ a b : Int, 0 ≤ a → a ≤ 100000 → -1000 ≤ b → b ≤ 1000 → -100000000 ≤ a * b ∧ a * b ≤ 100000000 := by
    intro a b h0 h1 h2 h3
    have e1 : a * b ≤ a * 1000 := Int.mul_le_mul_of_nonneg_left h3 h0
    have e2 : a * -1000 ≤ a * b := Int.mul_le_mul_of_nonneg_left h2 h0
    omega
  by_cases c : 0 ≤ x
  · exact key x s c hx.2 hs.1 hs.2
  · have := key (-x) s (by omega) (by omega) hs.1 hs.2
    rw [Int.neg_mul] at this
    omega
theorem wprod {x s : Int} (hx : -100000 ≤ x ∧ x ≤ 100000) (hs : -1000 ≤ s ∧ s ≤ 1000) : wrap64 (x * s) = x * s := by
  have := prod_bound hx hs
  exact w64 (by omega) (by omega)

theorem within_eq (a b c : Int) : impl_within.f a b c = some (decide (b ≤ a ∧ a ≤ c)) := by
  unfold impl_within.f
  by_cases h : a ≥ b
  · rw [if_pos h]
    have h' : b ≤ a := h
    simp [h']
  · rw [if_neg h]
    have h' : ¬ b ≤ a := h
    simp [h']

def vAng (d : Int) : Bool := decide (-3600 ≤ d ∧ d ≤ 3600)
def sineR (d : Int) : Int × Bool := if vAng d = true then (sn d, true) else (0, false)
def cosR (d : Int) : Int × Bool := if vAng d = true then (sn (d + 90), true) else (0, false)
theorem vAng_iff {d : Int} : vAng d = true ↔ -3600 ≤ d ∧ d ≤ 3600 := by unfold vAng; exact decide_eq_true_iff
theorem isAngle_eq (d : Int) : impl_isAngle.f d = some (vAng d) := by unfold impl_isAngle.f; rw [within_eq]; rfl
theorem implSineOf_eq (d : Int) : impl_SineOf.f d = some (sineR d) := by
  unfold impl_SineOf.f sineR
  rw [isAngle_eq, implSine_eq]
  simp only [Option.bind_some]
  split <;> rfl
theorem implCosOf_eq (d : Int) : impl_CosineOf.f d = some (cosR d) := by
  unfold impl_CosineOf.f cosR
  rw [isAngle_eq]
  simp only [Option.bind_some]
  by_cases h : vAng d = true
  · have := vAng_iff.mp h
    rw [if_pos h, if_pos h, implCos_eq (by omega) (by omega)]; rfl
  · rw [if_neg h, if_neg h]

/-- The turn between two bearings. -/
def tn (a b : Int) : Int := mn (mx (a - b) (-(a - b))) (360 - mx (a - b) (-(a - b)))
def vBear (d : Int) : Bool := decide (0 ≤ d ∧ d ≤ 359)
theorem vBear_iff {d : Int} : vBear d = true ↔ 0 ≤ d ∧ d ≤ 359 := by unfold vBear; exact decide_eq_true_iff
def turnR (a b : Int) : Int × Bool := if vBear a = true ∧ vBear b = true then (tn a b, true) else (0, false)
theorem implTurn_eq {a b : Int} (ha : 0 ≤ a ∧ a ≤ 359) (hb : 0 ≤ b ∧ b ≤ 359) : impl_turn.f a b = some (tn a b) := by
  unfold impl_turn.f impl_absolute.f tn
  rw [w64 (x := a - b) (by omega) (by omega), w64 (x := -(a - b)) (by omega) (by omega)]
  simp only [Option.bind_some]
  rw [w64 (x := 360 - mx (a - b) (-(a - b))) (by unfold mx; omega) (by unfold mx; omega)]
theorem implTurnR_eq (a b : Int) : impl_TurnBetween.f a b = some (turnR a b) := by
  unfold impl_TurnBetween.f turnR impl_isBearing.f
  rw [within_eq, within_eq]
  simp only [Option.bind_some]
  have e : ∀ d : Int, decide (0 ≤ d ∧ d ≤ 359) = vBear d := fun _ => rfl
  rw [e, e]
  by_cases h : vBear a = true
  · by_cases h2 : vBear b = true
    · rw [if_pos h, if_pos h2, if_pos ⟨h, h2⟩, implTurn_eq (vBear_iff.mp h) (vBear_iff.mp h2)]; rfl
    · rw [if_pos h, if_neg h2, if_neg (fun z => h2 z.2)]
  · rw [if_neg h, if_neg (fun z => h z.1)]
theorem tn_comm (a b : Int) : tn b a = tn a b := by unfold tn mx mn; omega
theorem tn_fact {a b : Int} (ha : 0 ≤ a ∧ a ≤ 359) (hb : 0 ≤ b ∧ b ≤ 359) : 0 ≤ tn a b ∧ tn a b ≤ 180 := by unfold tn mx mn; omega

theorem l1In_eq (a b c : Int) : spec_l1In.f a b c = some (decide (b ≤ a ∧ a ≤ c)) := by
  unfold spec_l1In.f
  by_cases h : a ≥ b
  · rw [if_pos h]
    have h' : b ≤ a := h
    simp [h']
  · rw [if_neg h]
    have h' : ¬ b ≤ a := h
    simp [h']

/-- What a bearing is worth. -/
def bval (e n b : Int) : Int := wrap64 (wrap64 (e * sn b) + wrap64 (n * sn (b + 90)))
theorem bearing_loops (e n : Int) (d : Nat) : ∀ (k : Nat) (b o : Int), b + d = 360 → 1 ≤ b → 0 ≤ o → o < 360 → d < k →
    ∃ r, spec_BearingTo.l0 k e n o b = some (r, true) ∧ impl_bearingTo.l0 k e n o (bval e n o) b = some r ∧ 0 ≤ r ∧ r < 360 ∧ bval e n o ≤ bval e n r ∧ ∀ j, b ≤ j → j < 360 → bval e n j ≤ bval e n r := by
  induction d with
  | zero =>
    intro k b o hb h1 h0 h2 hk
    obtain ⟨k, rfl⟩ : ∃ m, k = m + 1 := ⟨k - 1, by omega⟩
    refine ⟨o, ?_, ?_, h0, h2, Int.le_refl _, fun j g1 g2 => by omega⟩
    · simp only [spec_BearingTo.l0]; rw [if_neg (by omega)]
    · simp only [impl_bearingTo.l0]; rw [if_neg (by omega)]
  | succ d ih =>
    intro k b o hb h1 h0 h2 hk
    obtain ⟨k, rfl⟩ : ∃ m, k = m + 1 := ⟨k - 1, by omega⟩
    have ew : wrap64 (b + 1) = b + 1 := w64 (by omega) (by omega)
    have c1 : b < 360 := by omega
    have c2 : ¬ b = 0 := by omega
    have ev : wrap64 (wrap64 (e * sn b) + wrap64 (n * sn (b + 90))) = bval e n b := rfl
    have eo : wrap64 (wrap64 (e * sn o) + wrap64 (n * sn (o + 90))) = bval e n o := rfl
    simp only [spec_BearingTo.l0, impl_bearingTo.l0, if_pos c1, if_neg c2, specSine_eq, implSine_eq, specCos_eq (show -1000000 ≤ b by omega) (show b ≤ 1000000 by omega), specCos_eq (show -1000000 ≤ o by omega) (show o ≤ 1000000 by omega), implCos_eq (show -1000000 ≤ b by omega) (show b ≤ 1000000 by omega), Option.bind_some, ew, ev, eo]
    by_cases c : bval e n b > bval e n o
    · obtain ⟨r, i1, i2, i3, i4, i5, i6⟩ := ih k (b + 1) b (by omega) (by omega) (by omega) (by omega) (by omega)
      refine ⟨r, by rw [if_pos c]; exact i1, by rw [if_pos c]; exact i2, i3, i4, by omega, fun j g1 g2 => ?_⟩
      by_cases hj : j = b
      · subst hj; exact i5
      · exact i6 j (by omega) g2
    · obtain ⟨r, i1, i2, i3, i4, i5, i6⟩ := ih k (b + 1) o (by omega) (by omega) (by omega) (by omega) (by omega)
      refine ⟨r, by rw [if_neg c]; exact i1, by rw [if_neg c]; exact i2, i3, i4, i5, fun j g1 g2 => ?_⟩
      by_cases hj : j = b
      · subst hj; omega
      · exact i6 j (by omega) g2
theorem bearing_eq (e n : Int) : ∃ r, (∀ k, 365 < k → spec_BearingTo.f k e n = some r ∧ impl_BearingTo.f k e n = some r) ∧
    ((¬ ((-100000 ≤ e ∧ e ≤ 100000) ∧ (-100000 ≤ n ∧ n ≤ 100000) ∧ (e ≠ 0 ∨ n ≠ 0)) ∧ r = (0, false)) ∨ (((-100000 ≤ e ∧ e ≤ 100000) ∧ (-100000 ≤ n ∧ n ≤ 100000) ∧ (e ≠ 0 ∨ n ≠ 0)) ∧ r.2 = true ∧ 0 ≤ r.1 ∧ r.1 < 360 ∧ ∀ j, 0 ≤ j → j < 360 → bval e n j ≤ bval e n r.1)) := by
  unfold spec_BearingTo.f impl_BearingTo.f spec_l2Long.f impl_isLength.f
  simp only [l1In_eq, within_eq, Option.bind_some]
  by_cases h : (-100000 ≤ e ∧ e ≤ 100000) ∧ (-100000 ≤ n ∧ n ≤ 100000) ∧ (e ≠ 0 ∨ n ≠ 0)
  · obtain ⟨ce, cn, cz⟩ := h
    obtain ⟨r, e1, _, i3, i4, i5, i6⟩ := bearing_loops e n 359 360 1 0 (by omega) (by omega) (by omega) (by omega) (by omega)
    refine ⟨(r, true), fun k hk => ?_, .inr ⟨⟨ce, cn, cz⟩, rfl, i3, i4, fun j g1 g2 => ?_⟩⟩
    · have same : ∀ k, 359 < k → spec_BearingTo.l0 k e n 0 1 = some (r, true) ∧ impl_bearingTo.l0 k e n 0 (bval e n 0) 1 = some r := by
        intro k hk
        obtain ⟨r', e3, e4, _⟩ := bearing_loops e n 359 k 1 0 (by omega) (by omega) (by omega) (by omega) hk
        have m3 := at_rounds (fun k => (spec_BearingTo.mono_l k).2 e n 0 1) (show 360 ≤ max k 360 by omega) e1
        have m4 := at_rounds (fun k => (spec_BearingTo.mono_l k).2 e n 0 1) (show k ≤ max k 360 by omega) e3
        rw [m3] at m4
        have : r = r' := by simpa using m4
        subst this
        exact ⟨e3, e4⟩
      obtain ⟨k, rfl⟩ : ∃ m, k = m + 1 := ⟨k - 1, by omega⟩
      have hi : impl_bearingTo.f (k + 1) e n = some r := by
        unfold impl_bearingTo.f
        simp only [impl_bearingTo.l0]
        rw [if_pos (by omega), implSine_eq, implCos_eq (by omega) (by omega)]
        simp only [Option.bind_some, if_true]
        rw [show wrap64 (0 + 1) = 1 from w64 (by omega) (by omega)]
        exact (same k (by omega)).2
      have hs : spec_BearingTo.j0 (k + 1) e n false = some (r, true) := by
        simp only [spec_BearingTo.j0, Bool.false_eq_true, if_false]
        exact (same k (by omega)).1
      rw [hi]
      simp only [ce, cn, and_self, decide_true, if_true, Option.bind_some]
      by_cases z : e = 0
      · have zn : ¬ n = 0 := by omega
        rw [if_pos z, if_pos z, if_neg zn, show (n == 0) = false by simp [zn], hs]
        exact ⟨rfl, rfl⟩
      · rw [if_neg z, if_neg z, hs]
        exact ⟨rfl, rfl⟩
    · by_cases hj : j = 0
      · subst hj; exact i5
      · exact i6 j (by omega) g2
  · refine ⟨(0, false), fun k hk => ?_, .inl ⟨h, rfl⟩⟩
    obtain ⟨k, rfl⟩ : ∃ m, k = m + 1 := ⟨k - 1, by omega⟩
    by_cases ce : -100000 ≤ e ∧ e ≤ 100000
    · by_cases cn : -100000 ≤ n ∧ n ≤ 100000
      · have z : e = 0 ∧ n = 0 := by
          constructor
          · exact Decidable.byContradiction fun hz => h ⟨ce, cn, .inl hz⟩
          · exact Decidable.byContradiction fun hz => h ⟨ce, cn, .inr hz⟩
        obtain ⟨rfl, rfl⟩ := z
        simp [spec_BearingTo.j0]
      · simp [ce, cn, spec_BearingTo.j0]
    · simp [ce, spec_BearingTo.j0]

/-- What a slope is worth. -/
def sval (l u s : Int) : Int := wrap64 (wrap64 (l * sn (s + 90)) + wrap64 (u * sn s))
theorem cos_even {s : Int} (h0 : 0 ≤ s) (h1 : s ≤ 90) : sn (-s + 90) = sn (s + 90) := by
  unfold sn
  have e1 : (-s + 90) % 360 = 90 - s := by omega
  have e2 : (s + 90) % 360 = s + 90 := by omega
  rw [e1, e2, if_pos (by omega)]
  by_cases c : s = 0
  · subst c; rfl
  · rw [if_neg (by omega), if_pos (by omega), show 180 - (s + 90) = 90 - s by omega]
def sstep (l u b c : Int) : Int := if sval l u c > sval l u b then c else b
/-- The slope that is picked from s on, with the best so far. -/
def spick (l u : Int) : Nat → Int → Int → Int
  | 0, _, b => b
  | d + 1, s, b => spick l u d (s + 1) (sstep l u (sstep l u b s) (-s))
theorem sstep_range {l u b c : Int} (h0 : -90 ≤ b) (h1 : b ≤ 90) (k0 : -90 ≤ c) (k1 : c ≤ 90) : -90 ≤ sstep l u b c ∧ sstep l u b c ≤ 90 := by
  unfold sstep
  split <;> omega
theorem sstep_val (l u b c : Int) : (if sval l u c > sval l u b then sval l u c else sval l u b) = sval l u (sstep l u b c) := by
  unfold sstep
  split <;> rfl
theorem specSlope_pair (l u : Int) (k : Nat) (s o : Int) (h1 : 1 ≤ s) (hs : s ≤ 90) (h0 : -90 ≤ o) (h2 : o ≤ 90) :
    spec_SlopeTo.l0 (k + 4) l u o s = spec_SlopeTo.l0 k l u (sstep l u (sstep l u o s) (-s)) (s + 1) := by
  have w1 : wrap64 (1 * s) = s := (w64 (by omega) (by omega)).trans (by omega)
  have w2 : wrap64 (-1 * s) = -s := (w64 (by omega) (by omega)).trans (by omega)
  have w3 : wrap64 (s + 1) = s + 1 := w64 (by omega) (by omega)
  have w4 : wrap64 (1 - 2) = -1 := (w64 (by omega) (by omega)).trans (by omega)
  have w5 : wrap64 (-1 - 2) = -3 := (w64 (by omega) (by omega)).trans (by omega)
  obtain ⟨r0, r1⟩ := sstep_range (l := l) (u := u) (b := o) (c := s) h0 h2 (by omega) hs
  have ev : ∀ x : Int, wrap64 (wrap64 (l * sn (x + 90)) + wrap64 (u * sn x)) = sval l u x := fun _ => rfl
  have en : wrap64 (wrap64 (l * sn (s + 90)) + wrap64 (u * sn (-s))) = sval l u (-s) := by unfold sval; rw [cos_even (by omega) hs]
  have step1 : spec_SlopeTo.l0 (k + 4) l u o s = spec_SlopeTo.l1 (k + 2) l u (sstep l u o s) s (-1) := by
    rw [spec_SlopeTo.l0, if_pos hs, spec_SlopeTo.l1, if_pos (by omega), specCos_eq (by omega) (by omega), w1, specSine_eq]
    simp only [Option.bind_some]
    rw [specCos_eq (by omega) (by omega), specSine_eq]
    simp only [Option.bind_some, ev, w4]
    unfold sstep
    split <;> rfl
  have step2 : spec_SlopeTo.l1 (k + 2) l u (sstep l u o s) s (-1) = spec_SlopeTo.l1 (k + 1) l u (sstep l u (sstep l u o s) (-s)) s (-3) := by
    generalize sstep l u o s = b at *
    rw [spec_SlopeTo.l1, if_pos (by omega), specCos_eq (by omega) (by omega), w2, specSine_eq]
    simp only [Option.bind_some]
    rw [specCos_eq (by omega) (by omega), specSine_eq]
    simp only [Option.bind_some, ev, en, w5]
    unfold sstep
    split <;> rfl
  rw [step1, step2, spec_SlopeTo.l1, if_neg (by omega), w3]
theorem implSlope_pair (l u : Int) (k : Nat) (s o : Int) (h1 : 1 ≤ s) (hs : s ≤ 90) :
    impl_slopeTo.l0 (k + 4) l u o (sval l u o) s = impl_slopeTo.l0 k l u (sstep l u (sstep l u o s) (-s)) (sval l u (sstep l u (sstep l u o s) (-s))) (s + 1) := by
  have w0 : wrap64 (-s) = -s := w64 (by omega) (by omega)
  have w3 : wrap64 (s + 1) = s + 1 := w64 (by omega) (by omega)
  have w4 : wrap64 (0 + 1) = 1 := (w64 (by omega) (by omega)).trans (by omega)
  have w5 : wrap64 (1 + 1) = 2 := (w64 (by omega) (by omega)).trans (by omega)
  have ev : ∀ x : Int, wrap64 (wrap64 (l * sn (x + 90)) + wrap64 (u * sn x)) = sval l u x := fun _ => rfl
  have q0 : rd [s, -s] 0 = s := rfl
  have q1 : rd [s, -s] 1 = -s := rfl
  have hl : (([s, -s] : List Int).length : Int) = 2 := rfl
  have step1 : ∀ b k, impl_slopeTo.l1 (k + 1) l u b (sval l u b) s [s, -s] 2 0 = impl_slopeTo.l1 k l u (sstep l u b s) (sval l u (sstep l u b s)) s [s, -s] 2 1 := by
    intro b k
    rw [impl_slopeTo.l1, if_pos (by omega), if_pos (by omega), hl, if_pos (by omega), q0, implCos_eq (by omega) (by omega), implSine_eq]
    simp only [Option.bind_some, ev, w4]
    unfold sstep
    split <;> rfl
  have step2 : ∀ b k, impl_slopeTo.l1 (k + 1) l u b (sval l u b) s [s, -s] 2 1 = impl_slopeTo.l1 k l u (sstep l u b (-s)) (sval l u (sstep l u b (-s))) s [s, -s] 2 2 := by
    intro b k
    rw [impl_slopeTo.l1, if_pos (by omega), if_pos (by omega), hl, if_pos (by omega), q1, implCos_eq (by omega) (by omega), implSine_eq]
    simp only [Option.bind_some, ev, w5]
    unfold sstep
    split <;> rfl
  rw [impl_slopeTo.l0, if_pos hs, w0]
  simp only [Option.bind_some, hl]
  rw [step1, step2, impl_slopeTo.l1, if_neg (by omega), w3]
theorem slope_loops (l u : Int) : ∀ (d k : Nat) (s o : Int), s + d = 91 → 1 ≤ s → -90 ≤ o → o ≤ 90 → 4 * d + 1 ≤ k →
    spec_SlopeTo.l0 k l u o s = some (spick l u d s o, true) ∧ impl_slopeTo.l0 k l u o (sval l u o) s = some (spick l u d s o)
  | 0, k, s, o, hs, h1, h0, h2, hk => by
    obtain ⟨k, rfl⟩ : ∃ m, k = m + 1 := ⟨k - 1, by omega⟩
    refine ⟨?_, ?_⟩
    · simp only [spec_SlopeTo.l0]; rw [if_neg (by omega)]; rfl
    · simp only [impl_slopeTo.l0]; rw [if_neg (by omega)]; rfl
  | d + 1, k, s, o, hs, h1, h0, h2, hk => by
    obtain ⟨k, rfl⟩ : ∃ m, k = m + 4 := ⟨k - 4, by omega⟩
    rw [specSlope_pair l u k s o h1 (by omega) h0 h2, implSlope_pair l u k s o h1 (by omega)]
    obtain ⟨a0, a1⟩ := sstep_range (l := l) (u := u) (b := o) (c := s) h0 h2 (by omega) (by omega)
    obtain ⟨b0, b1⟩ := sstep_range (l := l) (u := u) (b := sstep l u o s) (c := -s) a0 a1 (by omega) (by omega)
    exact slope_loops l u d k (s + 1) _ (by omega) (by omega) b0 b1 (by omega)
theorem spick_range (l u : Int) : ∀ (d : Nat) (s o : Int), s + d = 91 → 1 ≤ s → -90 ≤ o → o ≤ 90 → -90 ≤ spick l u d s o ∧ spick l u d s o ≤ 90
  | 0, s, o, hs, h1, h0, h2 => ⟨h0, h2⟩
  | d + 1, s, o, hs, h1, h0, h2 => by
    obtain ⟨a0, a1⟩ := sstep_range (l := l) (u := u) (b := o) (c := s) h0 h2 (by omega) (by omega)
    obtain ⟨b0, b1⟩ := sstep_range (l := l) (u := u) (b := sstep l u o s) (c := -s) a0 a1 (by omega) (by omega)
    exact spick_range l u d (s + 1) _ (by omega) (by omega) b0 b1
theorem slope_eq (l u : Int) : ∃ r, (∀ k, 370 < k → spec_SlopeTo.f k l u = some r ∧ impl_SlopeTo.f k l u = some r) ∧
    ((¬ ((0 ≤ l ∧ l ≤ 100000) ∧ (-100000 ≤ u ∧ u ≤ 100000) ∧ (l ≠ 0 ∨ u ≠ 0)) ∧ r = (0, false)) ∨ (((0 ≤ l ∧ l ≤ 100000) ∧ (-100000 ≤ u ∧ u ≤ 100000) ∧ (l ≠ 0 ∨ u ≠ 0)) ∧ r = (spick l u 90 1 0, true))) := by
  unfold spec_SlopeTo.f impl_SlopeTo.f spec_l2Long.f impl_isLength.f
  simp only [l1In_eq, within_eq, Option.bind_some]
  by_cases h : (0 ≤ l ∧ l ≤ 100000) ∧ (-100000 ≤ u ∧ u ≤ 100000) ∧ (l ≠ 0 ∨ u ≠ 0)
  · obtain ⟨ce, cn, cz⟩ := h
    refine ⟨(spick l u 90 1 0, true), fun k hk => ?_, .inr ⟨⟨ce, cn, cz⟩, rfl⟩⟩
    obtain ⟨k, rfl⟩ : ∃ m, k = m + 1 := ⟨k - 1, by omega⟩
    have e0 : sval l u 0 = wrap64 (l * 1000) := by
      have a1 : sn (0 + 90) = 1000 := rfl
      have a2 : sn 0 = 0 := rfl
      unfold sval
      rw [a1, a2, Int.mul_zero, w64 (x := l * 1000) (by omega) (by omega), w64 (x := 0) (by omega) (by omega), Int.add_zero, w64 (x := l * 1000) (by omega) (by omega)]
    have hi : impl_slopeTo.f (k + 1) l u = some (spick l u 90 1 0) := by
      unfold impl_slopeTo.f
      rw [← e0]
      exact (slope_loops l u 90 (k + 1) 1 0 (by omega) (by omega) (by omega) (by omega) (by omega)).2
    have hs : spec_SlopeTo.j0 (k + 1) l u false = some (spick l u 90 1 0, true) := by
      simp only [spec_SlopeTo.j0, Bool.false_eq_true, if_false]
      exact (slope_loops l u 90 k 1 0 (by omega) (by omega) (by omega) (by omega) (by omega)).1
    rw [hi]
    simp only [ce, cn, and_self, decide_true, if_true, Option.bind_some]
    by_cases z : l = 0
    · have zn : ¬ u = 0 := by omega
      rw [if_pos z, if_pos z, if_neg zn, show (u == 0) = false by simp [zn], hs]
      exact ⟨rfl, rfl⟩
    · rw [if_neg z, if_neg z, hs]
      exact ⟨rfl, rfl⟩
  · refine ⟨(0, false), fun k hk => ?_, .inl ⟨h, rfl⟩⟩
    obtain ⟨k, rfl⟩ : ∃ m, k = m + 1 := ⟨k - 1, by omega⟩
    by_cases ce : 0 ≤ l ∧ l ≤ 100000
    · by_cases cn : -100000 ≤ u ∧ u ≤ 100000
      · have z : l = 0 ∧ u = 0 := by
          constructor
          · exact Decidable.byContradiction fun hz => h ⟨ce, cn, .inl hz⟩
          · exact Decidable.byContradiction fun hz => h ⟨ce, cn, .inr hz⟩
        obtain ⟨rfl, rfl⟩ := z
        simp [spec_SlopeTo.j0]
      · simp [ce, cn, spec_SlopeTo.j0]
    · simp [ce, spec_SlopeTo.j0]

theorem sq_le {a b : Int} (h0 : 0 ≤ a) (h : a ≤ b) : a * a ≤ b * b := Int.mul_le_mul h h h0 (by omega)
theorem sq_lt {a b : Int} (_h0 : 0 ≤ a) (hb : 0 ≤ b) (h : a * a < (b + 1) * (b + 1)) : a ≤ b := by
  by_cases c : a ≤ b
  · exact c
  · have := sq_le (a := b + 1) (b := a) (by omega) (by omega)
    omega
theorem root_unique {x r s : Int} (h0 : 0 ≤ r) (h1 : r * r ≤ x) (h2 : x < (r + 1) * (r + 1)) (k0 : 0 ≤ s) (k1 : s * s ≤ x) (k2 : x < (s + 1) * (s + 1)) : r = s := by
  have a := sq_lt h0 k0 (by omega)
  have b := sq_lt k0 h0 (by omega)
  omega
theorem mid {lo hi : Int} (h0 : 0 ≤ lo) (h1 : lo < hi) (h2 : hi ≤ 400000) : wrap64 (Int.tdiv (wrap64 ((wrap64 (lo + hi)) + 1)) 2) = (lo + hi + 1) / 2 := by
  rw [w64 (x := lo + hi) (by omega) (by omega), w64 (x := lo + hi + 1) (by omega) (by omega), td (by omega), w64 (by omega) (by omega)]
theorem sq_bound {m : Int} (h0 : 0 ≤ m) (h1 : m ≤ 400000) : wrap64 (m * m) = m * m := by
  have := sq_le h0 h1
  have := Int.mul_nonneg h0 h0
  exact w64 (by omega) (by omega)
theorem root_tells (x : Int) (d : Nat) : ∀ (k : Nat) (lo hi : Int), 0 ≤ lo → lo ≤ hi → hi ≤ 400000 → hi - lo ≤ d → d < k → lo * lo ≤ x → x < (hi + 1) * (hi + 1) →
    (∃ r, impl_root.l0 k x lo hi = some r ∧ 0 ≤ r ∧ r * r ≤ x ∧ x < (r + 1) * (r + 1)) ∧ (∃ r, spec_LengthOf.l0 k x lo hi = some (r, true) ∧ 0 ≤ r ∧ r * r ≤ x ∧ x < (r + 1) * (r + 1)) := by
  induction d with
  | zero =>
    intro k lo hi h0 h1 h2 hd hk hl hh
    obtain ⟨k, rfl⟩ : ∃ m, k = m + 1 := ⟨k - 1, by omega⟩
    obtain rfl : lo = hi := by omega
    refine ⟨⟨lo, ?_, h0, hl, hh⟩, ⟨lo, ?_, h0, hl, hh⟩⟩
    · simp only [impl_root.l0]; rw [if_neg (by omega)]
    · simp only [spec_LengthOf.l0]; rw [if_neg (by omega)]
  | succ d ih =>
    intro k lo hi h0 h1 h2 hd hk hl hh
    obtain ⟨k, rfl⟩ : ∃ m, k = m + 1 := ⟨k - 1, by omega⟩
    by_cases e : lo = hi
    · subst e
      refine ⟨⟨lo, ?_, h0, hl, hh⟩, ⟨lo, ?_, h0, hl, hh⟩⟩
      · simp only [impl_root.l0]; rw [if_neg (by omega)]
      · simp only [spec_LengthOf.l0]; rw [if_neg (by omega)]
    · have hlt : lo < hi := by omega
      have em := mid h0 hlt h2
      have b0 : lo < (lo + hi + 1) / 2 := by omega
      have b1 : (lo + hi + 1) / 2 ≤ hi := by omega
      simp only [impl_root.l0, spec_LengthOf.l0]
      rw [if_pos hlt, if_pos hlt, em]
      have es := sq_bound (m := (lo + hi + 1) / 2) (by omega) (by omega)
      have ew : wrap64 ((lo + hi + 1) / 2 - 1) = (lo + hi + 1) / 2 - 1 := w64 (by omega) (by omega)
      rw [es, ew]
      by_cases c : (lo + hi + 1) / 2 * ((lo + hi + 1) / 2) ≤ x
      · rw [if_pos c, if_pos c]
        exact ih k _ _ (by omega) b1 h2 (by omega) (by omega) c hh
      · rw [if_neg c, if_neg c]
        refine ih k _ _ h0 (by omega) (by omega) (by omega) (by omega) hl ?_
        rw [show (lo + hi + 1) / 2 - 1 + 1 = (lo + hi + 1) / 2 by omega]
        omega
theorem sq_long {a : Int} (h : -100000 ≤ a ∧ a ≤ 100000) : 0 ≤ a * a ∧ a * a ≤ 10000000000 := by
  by_cases c : 0 ≤ a
  · exact ⟨Int.mul_nonneg c c, sq_le c h.2⟩
  · have := sq_le (a := -a) (b := 100000) (by omega) (by omega)
    have k : -a * -a = a * a := Int.neg_mul_neg a a
    have := Int.mul_nonneg (a := -a) (b := -a) (by omega) (by omega)
    omega

theorem rd_u8 {l : List Int} (hl : ∀ y ∈ l, (Lit.int .u8 y).wf = true) (i : Int) : 0 ≤ rd l i ∧ rd l i ≤ 255 := by
  unfold rd
  rw [List.getD_eq_getElem?_getD]
  cases e : l[i.toNat]? with
  | none => simp
  | some x =>
    have h := hl x (List.mem_of_getElem? e)
    simp only [Lit.wf, Bool.and_eq_true, decide_eq_true_eq] at h
    have h2 : 0 ≤ x ∧ x ≤ 255 := h
    simpa using h2
theorem and_255 (x : Int) (h0 : 0 ≤ x) (h1 : x < 18446744073709551616) : 0 ≤ Go.bits .and .u64 x 255 ∧ Go.bits .and .u64 x 255 ≤ 255 := by
  have h := bits_and_u64_nat x.toNat 255 (by omega) (by omega)
  have e : ((x.toNat : Nat) : Int) = x := Int.toNat_of_nonneg h0
  rw [e] at h
  have e2 : ((255 : Nat) : Int) = 255 := rfl
  rw [e2] at h
  rw [h]
  have := Nat.and_le_right (n := x.toNat) (m := 255)
  omega
/-- A state's place: not negative, and not too far. -/
def Pl (p : Int) : Prop := 0 ≤ p ∧ p ≤ 1000000
theorem u64_bound (x : Int) : 0 ≤ IntKind.u64.wrap x ∧ IntKind.u64.wrap x < 18446744073709551616 := by
  have e : IntKind.u64.wrap x = x % 18446744073709551616 := rfl
  rw [e]
  omega
theorem next_ok {l : List Int} (hl : ∀ y ∈ l, (Lit.int .u8 y).wf = true) (p q : Int) (h0 : 0 ≤ p) (h1 : p ≤ 1000000) : ∃ v p' q', spec_l1Cur_next.f l p q = some (v, p', q') ∧ 0 ≤ v ∧ v ≤ 255 ∧ 0 ≤ p' ∧ p' ≤ p + 1 := by
  have ep : wrap64 (p + 1) = p + 1 := w64 (by omega) (by omega)
  have hd : ∀ x : Int, 0 ≤ wrap64 (Go.bits .and .u64 (IntKind.u64.wrap x / 1099511627776) 255) ∧ wrap64 (Go.bits .and .u64 (IntKind.u64.wrap x / 1099511627776) 255) ≤ 255 := by
    intro x
    have hb := u64_bound x
    have h := and_255 (IntKind.u64.wrap x / 1099511627776) (by omega) (by omega)
    rw [w64 (by omega) (by omega)]
    exact h
  unfold spec_l1Cur_next.f
  rw [ep]
  have hr := rd_u8 hl p
  have er : wrap64 (rd l p) = rd l p := w64 (by omega) (by omega)
  by_cases c : p < (l.length : Int)
  · have c2 : p + 1 ≤ (l.length : Int) := by omega
    simp only [if_pos c, if_pos h0, if_pos c2]
    exact ⟨_, _, _, rfl, by rw [er]; exact hr.1, by rw [er]; exact hr.2, by omega, by omega⟩
  · have c2 : ¬ p + 1 ≤ (l.length : Int) := by omega
    simp only [if_neg c, if_neg c2]
    exact ⟨_, _, _, rfl, (hd _).1, (hd _).2, by omega, by omega⟩
theorem pick_ok {l : List Int} (hl : ∀ y ∈ l, (Lit.int .u8 y).wf = true) (p q n : Int) (h0 : 0 ≤ p) (h1 : p ≤ 900000) (hn : 1 ≤ n) (hn1 : n ≤ 1000000) : ∃ v p' q', spec_l1Cur_pick.f l p q n = some (v, p', q') ∧ 0 ≤ v ∧ v < n ∧ 0 ≤ p' ∧ p' ≤ p + 2 := by
  unfold spec_l1Cur_pick.f
  by_cases c : n ≤ 1
  · rw [if_pos c]
    exact ⟨_, _, _, rfl, by omega, by omega, by omega, by omega⟩
  · have cz : ¬ n = 0 := by omega
    obtain ⟨v, p1, q1, e1, a1, a2, a3, a4⟩ := next_ok hl p q h0 (by omega)
    rw [if_neg c, e1]
    simp only [Option.bind_some, if_neg cz]
    by_cases c2 : n > 200
    · obtain ⟨v2, p2, q2, e2, b1, b2, b3, b4⟩ := next_ok hl p1 q1 a3 (by omega)
      rw [if_pos c2, e2]
      simp only [Option.bind_some]
      rw [w64 (x := v * 256) (by omega) (by omega), w64 (x := v * 256 + v2) (by omega) (by omega), Int.tmod_eq_emod_of_nonneg (by omega)]
      exact ⟨_, _, _, rfl, Int.emod_nonneg _ cz, Int.emod_lt_of_pos _ (by omega), by omega, by omega⟩
    · rw [if_neg c2, Int.tmod_eq_emod_of_nonneg (by omega)]
      exact ⟨_, _, _, rfl, Int.emod_nonneg _ cz, Int.emod_lt_of_pos _ (by omega), by omega, by omega⟩
theorem among_ok {l : List Int} (hl : ∀ y ∈ l, (Lit.int .u8 y).wf = true) (p q : Int) (xs : List Int) (h0 : 0 ≤ p) (h1 : p ≤ 900000) (hx : 1 ≤ xs.length) (hx1 : xs.length ≤ 1000000) {P : Int → Prop} (hP : ∀ x ∈ xs, P x) : ∃ v p' q', spec_l1Cur_among.f l p q xs = some (v, p', q') ∧ P v ∧ 0 ≤ p' ∧ p' ≤ p + 2 := by
  obtain ⟨v, p1, q1, e1, a1, a2, a3, a4⟩ := pick_ok hl p q (xs.length : Int) h0 h1 (by omega) (by omega)
  unfold spec_l1Cur_among.f
  rw [e1]
  simp only [Option.bind_some]
  rw [if_pos a1, if_pos a2]
  refine ⟨_, _, _, rfl, ?_, a3, a4⟩
  have hv : v.toNat < xs.length := by omega
  have e : rd xs v = xs[v.toNat] := by unfold rd; rw [List.getD_eq_getElem?_getD, List.getElem?_eq_getElem hv]; rfl
  rw [e]
  exact hP _ (List.getElem_mem hv)

theorem one_ok {l : List Int} (hl : ∀ y ∈ l, (Lit.int .u8 y).wf = true) (p q n : Int) (h0 : 0 ≤ p) (h1 : p ≤ 900000) (hn : 1 ≤ n) (hn1 : n ≤ 1000000) : ∃ b p' q', spec_l1Cur_one.f l p q n = some (b, p', q') ∧ 0 ≤ p' ∧ p' ≤ p + 2 := by
  obtain ⟨v, p1, q1, e1, a1, a2, a3, a4⟩ := pick_ok hl p q n h0 h1 hn hn1
  unfold spec_l1Cur_one.f
  rw [e1]
  exact ⟨_, _, _, rfl, a3, a4⟩

theorem long_ok {l : List Int} (hl : ∀ y ∈ l, (Lit.int .u8 y).wf = true) (p q : Int) (h0 : 0 ≤ p) (h1 : p ≤ 800000) : ∃ v p' q', spec_l1Cur_long.f l p q = some (v, p', q') ∧ (-100001 ≤ v ∧ v ≤ 100001) ∧ 0 ≤ p' ∧ p' ≤ p + 4 := by
  obtain ⟨b, p1, q1, e1, a3, a4⟩ := one_ok hl p q 24 h0 (by omega) (by omega) (by omega)
  unfold spec_l1Cur_long.f
  rw [e1]
  simp only [Option.bind_some]
  cases b with
  | true =>
    obtain ⟨v, p2, q2, e2, b1, b2, b3⟩ := among_ok hl p1 q1 [(-100001), (-100000), 100000, 100001] a3 (by omega) (by decide) (by decide) (P := fun v => -100001 ≤ v ∧ v ≤ 100001) (by decide)
    rw [if_pos rfl, e2]
    exact ⟨_, _, _, rfl, b1, b2, show p2 ≤ p + 4 by omega⟩
  | false =>
    obtain ⟨v, p2, q2, e2, b1, b2, b3⟩ := among_ok hl p1 q1 [0, 0, 1, (-1), 10, (-25), 123, 500, (-1000), 7777] a3 (by omega) (by decide) (by decide) (P := fun v => -100001 ≤ v ∧ v ≤ 100001) (by decide)
    rw [if_neg (by decide), e2]
    exact ⟨_, _, _, rfl, b1, b2, show p2 ≤ p + 4 by omega⟩

theorem bear_ok {l : List Int} (hl : ∀ y ∈ l, (Lit.int .u8 y).wf = true) (p q : Int) (h0 : 0 ≤ p) (h1 : p ≤ 800000) : ∃ v p' q', spec_l1Cur_bearing.f l p q = some (v, p', q') ∧ (-1 ≤ v ∧ v ≤ 360) ∧ 0 ≤ p' ∧ p' ≤ p + 4 := by
  obtain ⟨b, p1, q1, e1, a3, a4⟩ := one_ok hl p q 20 h0 (by omega) (by omega) (by omega)
  unfold spec_l1Cur_bearing.f
  rw [e1]
  simp only [Option.bind_some]
  cases b with
  | true =>
    obtain ⟨v, p2, q2, e2, b1, b2, b3⟩ := among_ok hl p1 q1 [(-1), 359, 360] a3 (by omega) (by decide) (by decide) (P := fun v => -1 ≤ v ∧ v ≤ 360) (by decide)
    rw [if_pos rfl, e2]
    exact ⟨_, _, _, rfl, b1, b2, show p2 ≤ p + 4 by omega⟩
  | false =>
    obtain ⟨v, p2, q2, e2, b1, b2, b3, b4⟩ := pick_ok hl p1 q1 360 a3 (by omega) (by omega) (by omega)
    rw [if_neg (by decide), e2]
    exact ⟨_, _, _, rfl, ⟨by omega, by omega⟩, b3, show p2 ≤ p + 4 by omega⟩

/-- The back bearing. -/
def backR (d : Int) : Int × Bool := if vBear d = true then ((d + 180) % 360, true) else (0, false)
theorem implBack_eq (d : Int) : impl_BackBearing.f d = some (backR d) := by
  unfold impl_BackBearing.f backR impl_isBearing.f impl_back.f
  rw [within_eq]
  simp only [Option.bind_some]
  have e : decide (0 ≤ d ∧ d ≤ 359) = vBear d := rfl
  rw [e]
  by_cases h : vBear d = true
  · have c := vBear_iff.mp h
    rw [if_pos h, if_pos h, w64 (x := d + 180) (by omega) (by omega), Int.tmod_eq_emod_of_nonneg (by omega)]
  · rw [if_neg h, if_neg h]
theorem specBack_eq (d : Int) : spec_BackBearing.f d = some (backR d) := by
  unfold spec_BackBearing.f backR spec_l2Bearing.f
  rw [l1In_eq]
  simp only [Option.bind_some]
  have e : decide (0 ≤ d ∧ d ≤ 359) = vBear d := rfl
  rw [e]
  by_cases h : vBear d = true
  · have c := vBear_iff.mp h
    rw [if_pos h, if_pos h, w64 (x := d + 180) (by omega) (by omega), Int.tmod_eq_emod_of_nonneg (by omega)]
  · rw [if_neg h, if_neg h]
theorem length_ok (a b c : Int) (n : Nat) (hn : 400003 ≤ n) : ∃ r, impl_LengthOf.f n a b c = some r ∧ spec_LengthOf.f n a b c = some r ∧ (r.2 = true → (-100000 ≤ a ∧ a ≤ 100000) ∧ (-100000 ≤ b ∧ b ≤ 100000) ∧ (-100000 ≤ c ∧ c ≤ 100000) ∧ 0 ≤ r.1 ∧ r.1 * r.1 ≤ a * a + b * b + c * c ∧ a * a + b * b + c * c < (r.1 + 1) * (r.1 + 1)) := by
  obtain ⟨n, rfl⟩ : ∃ m, n = m + 1 := ⟨n - 1, by omega⟩
  unfold spec_LengthOf.f impl_LengthOf.f spec_l2Long.f impl_isLength.f
  simp only [l1In_eq, within_eq, Option.bind_some]
  by_cases ca : -100000 ≤ a ∧ a ≤ 100000
  · by_cases cb : -100000 ≤ b ∧ b ≤ 100000
    · by_cases cc : -100000 ≤ c ∧ c ≤ 100000
      · have ha := sq_long ca
        have hb := sq_long cb
        have hc := sq_long cc
        have wa : wrap64 (a * a) = a * a := w64 (by omega) (by omega)
        have wb : wrap64 (b * b) = b * b := w64 (by omega) (by omega)
        have wc : wrap64 (c * c) = c * c := w64 (by omega) (by omega)
        have w1 : wrap64 (a * a + b * b) = a * a + b * b := w64 (by omega) (by omega)
        have w2 : wrap64 (a * a + b * b + c * c) = a * a + b * b + c * c := w64 (by omega) (by omega)
        obtain ⟨⟨r, e1, r0, r1, r2⟩, _⟩ := root_tells (a * a + b * b + c * c) 400001 (n + 1) 0 400000 (by omega) (by omega) (by omega) (by omega) (by omega) (by omega) (by omega)
        obtain ⟨_, ⟨s, e2, s0, s1, s2⟩⟩ := root_tells (a * a + b * b + c * c) 400001 n 0 200000 (by omega) (by omega) (by omega) (by omega) (by omega) (by omega) (by omega)
        obtain rfl := root_unique r0 r1 r2 s0 s1 s2
        simp only [ca, cb, cc, and_self, decide_true, if_true, Bool.not_true]
        have ej : spec_LengthOf.j0 (n + 1) a b c false = some (r, true) := by
          simp only [spec_LengthOf.j0]
          simp only [Bool.false_eq_true, if_false, wa, wb, wc, w1, w2]
          exact e2
        unfold impl_root.f
        simp only [wa, wb, wc, w1, w2]
        rw [ej, e1]
        exact ⟨(r, true), rfl, rfl, fun _ => ⟨trivial, trivial, trivial, r0, r1, r2⟩⟩
      · exact ⟨(0, false), by simp [ca, cb, cc], by simp [ca, cb, cc, spec_LengthOf.j0], by simp⟩
    · exact ⟨(0, false), by simp [ca, cb], by simp [ca, cb, spec_LengthOf.j0], by simp⟩
  · exact ⟨(0, false), by simp [ca], by simp [ca, spec_LengthOf.j0], by simp⟩
theorem sval_eq {l u s : Int} (hl : 0 ≤ l ∧ l ≤ 100000) (hu : -100000 ≤ u ∧ u ≤ 100000) : sval l u s = l * sn (s + 90) + u * sn s := by
  have p1 := prod_bound (x := l) (by omega) (sn_bound (s + 90))
  have p2 := prod_bound hu (sn_bound s)
  unfold sval
  rw [w64 (x := l * sn (s + 90)) (by omega) (by omega), w64 (x := u * sn s) (by omega) (by omega)]
  exact w64 (by omega) (by omega)
theorem sn_pos : ∀ i : Fin 90, 0 < sn ((i : Nat) + 1) := by decide +kernel
theorem sn_pos' {s : Int} (h1 : 1 ≤ s) (h2 : s ≤ 90) : 0 < sn s := by
  have h := sn_pos ⟨(s - 1).toNat, by omega⟩
  have e : (((s - 1).toNat : Nat) : Int) + 1 = s := by omega
  simpa only [e] using h
theorem sval_neg {l u s : Int} (hl : 0 ≤ l ∧ l ≤ 100000) (hu : -100000 ≤ u ∧ u ≤ 100000) (hs : -90 ≤ s ∧ s ≤ 90) : sval l (-u) (-s) = sval l u s := by
  rw [sval_eq hl (by omega), sval_eq hl hu, sn_neg]
  have e : sn (-s + 90) = sn (s + 90) := by
    by_cases c : 0 ≤ s
    · exact cos_even c hs.2
    · have h := cos_even (s := -s) (by omega) (by omega)
      rw [Int.neg_neg] at h
      exact h.symm
  rw [e, Int.neg_mul_neg]
theorem sstep_pair {l u b s : Int} (hl : 0 ≤ l ∧ l ≤ 100000) (hu : 0 < u ∧ u ≤ 100000) (hb : -90 ≤ b ∧ b ≤ 90) (h1 : 1 ≤ s) (h2 : s ≤ 90) :
    sstep l (-u) (sstep l (-u) (-b) s) (-s) = -sstep l u (sstep l u b s) (-s) := by
  have lt : sval l u (-s) < sval l u s := by
    rw [sval_eq hl (by omega), sval_eq hl (by omega), cos_even (by omega) h2, sn_neg, Int.mul_neg]
    have := Int.mul_pos hu.1 (sn_pos' h1 h2)
    omega
  have n1 : sval l (-u) (-s) = sval l u s := sval_neg hl (by omega) (by omega)
  have n2 : sval l (-u) s = sval l u (-s) := by
    have h := sval_neg (s := -s) hl (show -100000 ≤ u ∧ u ≤ 100000 by omega) (by omega)
    rwa [Int.neg_neg] at h
  have n3 : sval l (-u) (-b) = sval l u b := sval_neg hl (by omega) hb
  unfold sstep
  rw [n2, n3]
  by_cases c1 : sval l u s > sval l u b
  · have g1 : ¬ sval l u (-s) > sval l u s := by omega
    rw [if_pos c1, if_neg g1]
    by_cases c2 : sval l u (-s) > sval l u b
    · rw [if_pos c2, n1, n2, if_pos (by omega)]
    · rw [if_neg c2, n1, n3, if_pos c1]
  · have g1 : ¬ sval l u (-s) > sval l u b := by omega
    rw [if_neg c1, if_neg g1, if_neg g1, n1, n3, if_neg c1]
theorem spick_neg {l u : Int} (hl : 0 ≤ l ∧ l ≤ 100000) (hu : 0 < u ∧ u ≤ 100000) : ∀ (d : Nat) (s b : Int), s + d = 91 → 1 ≤ s → -90 ≤ b → b ≤ 90 → spick l (-u) d s (-b) = -spick l u d s b
  | 0, s, b, _, _, _, _ => rfl
  | d + 1, s, b, hs, h1, h2, h3 => by
    simp only [spick]
    rw [sstep_pair hl hu ⟨h2, h3⟩ h1 (by omega)]
    have r1 := sstep_range (l := l) (u := u) (b := b) (c := s) h2 h3 (by omega) (by omega)
    have r2 := sstep_range (l := l) (u := u) (b := sstep l u b s) (c := -s) r1.1 r1.2 (by omega) (by omega)
    exact spick_neg hl hu d (s + 1) _ (by omega) (by omega) r2.1 r2.2
theorem spick_zero {l : Int} (hl : 0 ≤ l ∧ l ≤ 100000) : ∀ (d : Nat) (s : Int), spick l 0 d s 0 = 0
  | 0, _ => rfl
  | d + 1, s => by
    have h : ∀ c, sstep l 0 0 c = 0 := by
      intro c
      unfold sstep
      rw [sval_eq hl (by omega), sval_eq hl (by omega), Int.zero_mul, Int.zero_mul]
      have a1 : sn (0 + 90) = 1000 := rfl
      have := Int.mul_le_mul_of_nonneg_left (sn_bound (c + 90)).2 hl.1
      rw [a1, if_neg (by omega)]
    simp only [spick, h]
    exact spick_zero hl d (s + 1)
theorem spick_minus {l u : Int} (hl : 0 ≤ l ∧ l ≤ 100000) (hu : -100000 ≤ u ∧ u ≤ 100000) : spick l (-u) 90 1 0 = -spick l u 90 1 0 := by
  by_cases z : u = 0
  · subst z
    rw [Int.neg_zero, spick_zero hl]; rfl
  · by_cases c : 0 < u
    · exact spick_neg hl ⟨c, hu.2⟩ 90 1 0 (by omega) (by omega) (by omega) (by omega)
    · have h := spick_neg (u := -u) hl ⟨by omega, by omega⟩ 90 1 0 (by omega) (by omega) (by omega) (by omega)
      rw [Int.neg_neg, Int.neg_zero] at h
      rw [h, Int.neg_neg]
theorem drawBack_ok {l : List Int} (hw : ∀ y ∈ l, (Lit.int .u8 y).wf = true) : ∃ a, spec_DrawBackBearing.f l = some a := by
  unfold spec_DrawBackBearing.f spec_DrawBackBearing_in.f
  obtain ⟨v, p1, q1, e1, a1, a2, a3⟩ := bear_ok hw 0 0 (by omega) (by omega)
  exact ⟨v, by rw [e1]; rfl⟩
theorem drawTo_ok {l : List Int} (hw : ∀ y ∈ l, (Lit.int .u8 y).wf = true) : ∃ a b, spec_DrawBearingTo.f l = some (a, b) := by
  unfold spec_DrawBearingTo.f spec_DrawBearingTo_in.f
  obtain ⟨v, p1, q1, e1, a1, a2, a3⟩ := long_ok hw 0 0 (by omega) (by omega)
  obtain ⟨v2, p2, q2, e2, b1, b2, b3⟩ := long_ok hw p1 q1 a2 (by omega)
  exact ⟨v, v2, by rw [e1]; simp only [Option.bind_some]; rw [e2]; rfl⟩
theorem drawLen_ok {l : List Int} (hw : ∀ y ∈ l, (Lit.int .u8 y).wf = true) : ∃ a b c, spec_DrawLengthOf.f l = some (a, b, c) := by
  unfold spec_DrawLengthOf.f spec_DrawLengthOf_in.f
  obtain ⟨v, p1, q1, e1, a1, a2, a3⟩ := long_ok hw 0 0 (by omega) (by omega)
  obtain ⟨v2, p2, q2, e2, b1, b2, b3⟩ := long_ok hw p1 q1 a2 (by omega)
  obtain ⟨v3, p3, q3, e3, c1, c2, c3⟩ := long_ok hw p2 q2 b2 (by omega)
  exact ⟨v, v2, v3, by rw [e1]; simp only [Option.bind_some]; rw [e2]; simp only [Option.bind_some]; rw [e3]; rfl⟩
theorem drawSlope_ok {l : List Int} (hw : ∀ y ∈ l, (Lit.int .u8 y).wf = true) : ∃ a b, spec_DrawSlopeTo.f l = some (a, b) ∧ (-100001 ≤ b ∧ b ≤ 100001) := by
  unfold spec_DrawSlopeTo.f spec_DrawSlopeTo_in.f
  obtain ⟨v, p1, q1, e1, a1, a2, a3⟩ := long_ok hw 0 0 (by omega) (by omega)
  obtain ⟨b, p2, q2, e2, b2, b3⟩ := one_ok hw p1 q1 8 a2 (by omega) (by omega) (by omega)
  obtain ⟨v3, p3, q3, e3, c1, c2, c3⟩ := long_ok hw p2 q2 b2 (by omega)
  cases b with
  | true => exact ⟨v, v3, by rw [e1]; simp only [Option.bind_some]; rw [e2]; simp only [Option.bind_some, if_true]; rw [e3]; rfl, c1⟩
  | false =>
    have hm : ∃ t, spec_l1Most.f v (wrap64 (-v)) = some t := by unfold spec_l1Most.f; split <;> exact ⟨_, rfl⟩
    obtain ⟨t, et⟩ := hm
    exact ⟨t, v3, by rw [e1]; simp only [Option.bind_some]; rw [e2]; simp only [Option.bind_some, Bool.false_eq_true, if_false]; rw [et]; simp only [Option.bind_some]; rw [e3]; rfl, c1⟩
section
variable {l : List Int} (hw : ∀ y ∈ l, (Lit.int .u8 y).wf = true)
include hw
theorem j6_ok (k : Nat) (hk : 400004 ≤ k) : laws_FnBearings.j6 k l = some true := by
  obtain ⟨k, rfl⟩ : ∃ m, k = m + 1 := ⟨k - 1, by omega⟩
  obtain ⟨a, b, c, e⟩ := drawLen_ok hw
  obtain ⟨r, e1, e2, hr⟩ := length_ok a b c k (by omega)
  simp only [laws_FnBearings.j6, e, Option.bind_some, e1, e2, if_true, bne_self_eq_false, Bool.false_eq_true, if_false]
  by_cases h : r.2 = true
  · obtain ⟨ca, cb, cc, r0, r1, r2⟩ := hr h
    have ha := sq_long ca
    have hb := sq_long cb
    have hc := sq_long cc
    have wa : wrap64 (a * a) = a * a := w64 (by omega) (by omega)
    have wb : wrap64 (b * b) = b * b := w64 (by omega) (by omega)
    have wc : wrap64 (c * c) = c * c := w64 (by omega) (by omega)
    have w1 : wrap64 (a * a + b * b) = a * a + b * b := w64 (by omega) (by omega)
    have w2 : wrap64 (a * a + b * b + c * c) = a * a + b * b + c * c := w64 (by omega) (by omega)
    have rb : r.1 ≤ 400000 := by
      by_cases z : r.1 ≤ 400000
      · exact z
      · have := sq_le (a := 400000) (b := r.1) (by omega) (by omega)
        omega
    have q1 := sq_le (a := r.1) (b := 400000) r0 rb
    have q2 := sq_le (a := r.1 + 1) (b := 400001) (by omega) (by omega)
    have q0 := Int.mul_nonneg r0 r0
    have q3 := Int.mul_nonneg (a := r.1 + 1) (b := r.1 + 1) (by omega) (by omega)
    rw [if_pos h, wa, wb, wc, w1, w2, w64 (x := r.1 * r.1) (by omega) (by omega), w64 (x := r.1 + 1) (by omega) (by omega), w64 (x := (r.1 + 1) * (r.1 + 1)) (by omega) (by omega), if_pos r1]
    exact congrArg some (decide_eq_true r2)
  · rw [if_neg h]
theorem j5_ok (k : Nat) (hk : 400005 ≤ k) {x u : Int} (hu : -100001 ≤ u ∧ u ≤ 100001) (r : Int × Bool) (hr : ∀ k, 370 < k → spec_SlopeTo.f k x u = some r ∧ impl_SlopeTo.f k x u = some r) : laws_FnBearings.j5 k l x u r.1 r.2 false = some true := by
  obtain ⟨k, rfl⟩ : ∃ m, k = m + 1 := ⟨k - 1, by omega⟩
  obtain ⟨r1, g1, g2⟩ := slope_eq x u
  have e := (hr 371 (by omega)).1
  rw [(g1 371 (by omega)).1] at e
  obtain rfl := Option.some.inj e
  obtain ⟨r2, f1, f2⟩ := slope_eq x (-u)
  have ew : wrap64 (-u) = -u := w64 (by omega) (by omega)
  simp only [laws_FnBearings.j5, Bool.false_eq_true, if_false, ew, (f1 k (by omega)).2, Option.bind_some, j6_ok hw k (by omega)]
  rcases g2 with ⟨gn, rfl⟩ | ⟨⟨gx, gu, gz⟩, rfl⟩
  · simp
  · rcases f2 with ⟨fn, rfl⟩ | ⟨_, rfl⟩
    · exact absurd ⟨gx, by omega, by omega⟩ fn
    · have sr := spick_range x u 90 1 0 (by omega) (by omega) (by omega) (by omega)
      have c1 : ¬ spick x u 90 1 0 < -90 := by omega
      have c2 : ¬ spick x u 90 1 0 > 90 := by omega
      simp only [if_true, spick_minus gx gu, w64 (x := -spick x u 90 1 0) (show -9223372036854775808 ≤ -spick x u 90 1 0 by omega) (by omega), if_neg c1, if_neg c2]
      split <;> rfl
theorem j4_ok (k : Nat) (hk : 400006 ≤ k) : laws_FnBearings.j4 k l = some true := by
  obtain ⟨k, rfl⟩ : ∃ m, k = m + 1 := ⟨k - 1, by omega⟩
  obtain ⟨a, b, e, hb⟩ := drawSlope_ok hw
  obtain ⟨r, g1, _⟩ := slope_eq a b
  simp only [laws_FnBearings.j4, e, Option.bind_some, (g1 k (by omega)).1, (g1 k (by omega)).2, if_true, bne_self_eq_false, j5_ok hw k (by omega) hb r g1]
theorem l0_ok {e n b : Int} (hb : 0 ≤ b ∧ b < 360) (hm : ∀ j, 0 ≤ j → j < 360 → bval e n j ≤ bval e n b) : ∀ (d : Nat) (k : Nat) (x : Int), 400007 + d ≤ k → 0 ≤ x → x + 15 * d = 360 →
    laws_FnBearings.l0 k l e n (sineR b).1 (sineR b).2 (cosR b).1 (cosR b).2 x = some true
  | 0, k, x, hk, h0, hx => by
    obtain ⟨k, rfl⟩ : ∃ m, k = m + 1 := ⟨k - 1, by omega⟩
    have c : ¬ x < 360 := by omega
    simp only [laws_FnBearings.l0, if_neg c, j4_ok hw k (by omega)]
  | d + 1, k, x, hk, h0, hx => by
    obtain ⟨k, rfl⟩ : ∃ m, k = m + 1 := ⟨k - 1, by omega⟩
    have c : x < 360 := by omega
    have ih := l0_ok hb hm d k (x + 15) (by omega) (by omega) (by omega)
    have vb : vAng b = true := vAng_iff.mpr (by omega)
    have vx : vAng x = true := vAng_iff.mpr (by omega)
    have ew : wrap64 (x + 15) = x + 15 := w64 (by omega) (by omega)
    have m := hm x h0 c
    unfold bval at m
    have c2 : ¬ wrap64 (wrap64 (e * sn x) + wrap64 (n * sn (x + 90))) > wrap64 (wrap64 (e * sn b) + wrap64 (n * sn (b + 90))) := by omega
    unfold sineR cosR at ih
    simp only [if_pos vb] at ih
    unfold sineR cosR
    simp only [laws_FnBearings.l0, if_pos c, implSineOf_eq, implCosOf_eq, Option.bind_some, sineR, cosR, if_pos vb, if_pos vx, if_true, if_neg c2, ew, ih]
theorem j2_ok (k : Nat) (hk : 400040 ≤ k) {a b : Int} (r : Int × Bool) (hr : (¬ ((-100000 ≤ a ∧ a ≤ 100000) ∧ (-100000 ≤ b ∧ b ≤ 100000) ∧ (a ≠ 0 ∨ b ≠ 0)) ∧ r = (0, false)) ∨ (((-100000 ≤ a ∧ a ≤ 100000) ∧ (-100000 ≤ b ∧ b ≤ 100000) ∧ (a ≠ 0 ∨ b ≠ 0)) ∧ r.2 = true ∧ 0 ≤ r.1 ∧ r.1 < 360 ∧ ∀ j, 0 ≤ j → j < 360 → bval a b j ≤ bval a b r.1)) :
    laws_FnBearings.j2 k l a b r.1 r.2 false = some true := by
  obtain ⟨k, rfl⟩ : ∃ m, k = m + 1 := ⟨k - 1, by omega⟩
  simp only [laws_FnBearings.j2, Bool.false_eq_true, if_false, implSineOf_eq, implCosOf_eq, Option.bind_some, j4_ok hw k (by omega)]
  rcases hr with ⟨_, rfl⟩ | ⟨_, h2, h3, h4, h5⟩
  · simp
  · rw [if_pos h2]
    exact l0_ok hw ⟨h3, h4⟩ h5 24 k 0 (by omega) (by omega) (by omega)
theorem j1_ok (k : Nat) (hk : 400041 ≤ k) : laws_FnBearings.j1 k l = some true := by
  obtain ⟨k, rfl⟩ : ∃ m, k = m + 1 := ⟨k - 1, by omega⟩
  obtain ⟨a, b, e⟩ := drawTo_ok hw
  obtain ⟨r, g1, g2⟩ := bearing_eq a b
  simp only [laws_FnBearings.j1, e, Option.bind_some, (g1 k (by omega)).1, (g1 k (by omega)).2, if_true, bne_self_eq_false, j2_ok hw k (by omega) r g2]
theorem j0_ok (k : Nat) (hk : 400042 ≤ k) (d : Int) : laws_FnBearings.j0 k l d (backR d).1 (backR d).2 false = some true := by
  obtain ⟨k, rfl⟩ : ∃ m, k = m + 1 := ⟨k - 1, by omega⟩
  simp only [laws_FnBearings.j0, Bool.false_eq_true, if_false, implBack_eq, implTurnR_eq, Option.bind_some, j1_ok hw k (by omega)]
  by_cases h : vBear d = true
  · have c := vBear_iff.mp h
    have e : backR d = ((d + 180) % 360, true) := if_pos h
    have h2 : vBear ((d + 180) % 360) = true := vBear_iff.mpr (by omega)
    have e2 : backR ((d + 180) % 360) = (((d + 180) % 360 + 180) % 360, true) := if_pos h2
    have e3 : ((d + 180) % 360 + 180) % 360 = d := by omega
    have e4 : tn d ((d + 180) % 360) = 180 := by unfold tn mx mn; omega
    rw [e]
    simp only [e2, e3, turnR, if_pos (show vBear d = true ∧ vBear ((d + 180) % 360) = true from ⟨h, h2⟩), e4, if_true]
  · have e : backR d = (0, false) := if_neg h
    rw [e]
    simp
end
theorem FnBearings : Asked := by
  intro l hl hw
  refine ⟨400042, ?_⟩
  generalize hk : (400042 : Nat) = k
  unfold laws_FnBearings.f laws_vBig.f
  simp only [Option.bind_some]
  by_cases c : (l.length : Int) > 65536
  · simp [c]
  · obtain ⟨d, e⟩ := drawBack_ok hw
    have h := j0_ok hw k (by omega) d
    simp only [decide_eq_true_eq, if_neg c, e, Option.bind_some, implBack_eq, specBack_eq, if_true, bne_self_eq_false, h]
end Go.Proofs.YtphbgedmdohlnaaDoor.Pure
