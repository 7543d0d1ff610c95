/- The pure statement of the law FnAngles: true for every string of bytes; no condition but the slice's reach. -/
import Derived.Test.YtphbgedmdohlnaaDoorAskFnAngles
namespace Go.Proofs.YtphbgedmdohlnaaDoor.Pure
open Go.RowKit Go.Proofs.YtphbgedmdohlnaaDoor.XFnAngles Go.Proofs.YtphbgedmdohlnaaDoor.AskFnAngles Go.Proofs.YtphbgedmdohlnaaDoorW.PrintWords Go.Proofs.YtphbgedmdohlnaaDoorW.PrintLast
set_option linter.unusedVariables false
set_option linter.unusedSimpArgs false

theorem l1In_eq (a b c : Int) : spec_l1In.f a b c = some (decide (b ≤ a ∧ a ≤ c)) := by
  unfold spec_l1In.f
  by_cases h : a ≥ b
  · rw [if_pos h]
    have h' : b ≤ a := h
    simp [h']
  · rw [if_neg h]
    have h' : ¬ b ≤ a := h
    simp [h']

theorem within_eq (a b c : Int) : impl_within.f a b c = some (decide (b ≤ a ∧ a ≤ c)) := by
  unfold impl_within.f
  by_cases h : a ≥ b
  · rw [if_pos h]
    have h' : b ≤ a := h
    simp [h']
  · rw [if_neg h]
    have h' : ¬ b ≤ a := h
    simp [h']

theorem w64 {x : Int} (h0 : -9223372036854775808 ≤ x) (h1 : x ≤ 9223372036854775807) : wrap64 x = x := by
  unfold wrap64
  omega

theorem td {x y : Int} (h : 0 ≤ x) : Int.tdiv x y = x / y := Int.tdiv_eq_ediv_of_nonneg h
theorem tm {x y : Int} (h : 0 ≤ x) : Int.tmod x y = x % y := Int.tmod_eq_emod_of_nonneg h

/-- An entry of the table. -/
def T_ (i : Int) : Int := sineTab.getD i.toNat 0
/-- The sine of any angle. -/
def sn (d : Int) : Int := if d % 360 ≤ 90 then T_ (d % 360) else if d % 360 ≤ 180 then T_ (180 - d % 360) else if d % 360 ≤ 270 then -T_ (d % 360 - 180) else -T_ (360 - d % 360)
theorem T_bound (i : Int) : 0 ≤ T_ i ∧ T_ i ≤ 1000 := by
  have h : ∀ x ∈ sineTab, 0 ≤ x ∧ x ≤ 1000 := by decide
  unfold T_
  rw [List.getD_eq_getElem?_getD]
  cases e : sineTab[i.toNat]? with
  | none => simp
  | some x => exact h x (List.mem_of_getElem? e)
theorem sn_bound (d : Int) : -1000 ≤ sn d ∧ sn d ≤ 1000 := by
  unfold sn
  have h1 := T_bound (d % 360)
  have h2 := T_bound (180 - d % 360)
  have h3 := T_bound (d % 360 - 180)
  have h4 := T_bound (360 - d % 360)
  split
  · omega
  · split
    · omega
    · split <;> omega
theorem md_eq (x : Int) : Int.tmod (wrap64 (Int.tmod x 360 + 360)) 360 = x % 360 := by
  by_cases h : 0 ≤ x
  · have e0 : Int.tmod x 360 = x % 360 := tm h
    have e1 : wrap64 (x % 360 + 360) = x % 360 + 360 := w64 (by omega) (by omega)
    rw [e0, e1, tm (x := x % 360 + 360) (by omega)]
    omega
  · have e0 : Int.tmod x 360 = -(-x % 360) := by
      have h := Int.neg_tmod (-x) 360
      rw [Int.neg_neg, tm (x := -x) (by omega)] at h
      exact h
    have e1 : wrap64 (-(-x % 360) + 360) = -(-x % 360) + 360 := w64 (by omega) (by omega)
    rw [e0, e1, tm (x := -(-x % 360) + 360) (by omega)]
    omega
theorem table_at {i : Int} (h0 : 0 ≤ i) (h1 : i < 91) : (spec_l2Table.f).bind (fun t => if 0 ≤ i then (if i < (t.length : Int) then some (rd t i) else none) else none) = some (T_ i) := by
  unfold spec_l2Table.f
  simp only [Option.bind_some]
  rw [if_pos h0, if_pos (by simpa using h1)]
  rfl
theorem table_neg {i : Int} (h0 : 0 ≤ i) (h1 : i < 91) : (spec_l2Table.f).bind (fun t => if 0 ≤ i then (if i < (t.length : Int) then some (wrap64 (-(rd t i))) else none) else none) = some (-T_ i) := by
  have hb := T_bound i
  unfold spec_l2Table.f
  simp only [Option.bind_some]
  rw [if_pos h0, if_pos (by simpa using h1)]
  exact congrArg some (w64 (x := -T_ i) (by omega) (by omega))
theorem specSine_eq (d : Int) : spec_l2Sine.f d = some (sn d) := by
  unfold spec_l2Sine.f sn
  rw [md_eq]
  have h0 : 0 ≤ d % 360 := by omega
  have h1 : d % 360 < 360 := by omega
  generalize d % 360 = m at *
  have e1 : wrap64 (180 - m) = 180 - m := w64 (by omega) (by omega)
  have e2 : wrap64 (m - 180) = m - 180 := w64 (by omega) (by omega)
  have e3 : wrap64 (360 - m) = 360 - m := w64 (by omega) (by omega)
  rw [e1, e2, e3]
  by_cases c1 : m ≤ 90
  · rw [if_pos c1, if_pos c1]; exact table_at h0 (by omega)
  · rw [if_neg c1, if_neg c1]
    by_cases c2 : m ≤ 180
    · rw [if_pos c2, if_pos c2]; exact table_at (by omega) (by omega)
    · rw [if_neg c2, if_neg c2]
      by_cases c3 : m ≤ 270
      · rw [if_pos c3, if_pos c3]; exact table_neg (by omega) (by omega)
      · rw [if_neg c3, if_neg c3]; exact table_neg (by omega) (by omega)
theorem implSine_eq (d : Int) : impl_sine.f d = some (sn d) := by
  unfold impl_sine.f impl_modulo.f sn
  rw [if_neg (by omega), md_eq]
  simp only [Option.bind_some]
  have h0 : 0 ≤ d % 360 := by omega
  have h1 : d % 360 < 360 := by omega
  generalize d % 360 = m at *
  have b1 := T_bound (m - 180)
  have b2 := T_bound (360 - m)
  rw [if_pos ⟨h0, h1⟩]
  by_cases c1 : m ≤ 90
  · rw [if_pos (by omega), if_pos c1]; unfold sineLow; rw [if_pos c1]; rfl
  · rw [if_neg c1]
    by_cases c2 : m ≤ 180
    · rw [if_pos c2, if_pos c2]; unfold sineLow; rw [if_neg c1]; rfl
    · rw [if_neg c2, if_neg c2]
      by_cases c3 : m ≤ 270
      · have e : sineLow (m - 180) = T_ (m - 180) := by unfold sineLow; rw [if_pos (by omega)]; rfl
        rw [if_pos c3, e, w64 (x := -T_ (m - 180)) (by omega) (by omega)]
      · have e : sineLow (m - 180) = T_ (360 - m) := by unfold sineLow; rw [if_neg (by omega), show 180 - (m - 180) = 360 - m by omega]; rfl
        rw [if_neg c3, e, w64 (x := -T_ (360 - m)) (by omega) (by omega)]

theorem specCos_eq {d : Int} (h0 : -1000000 ≤ d) (h1 : d ≤ 1000000) : spec_l2Cosine.f d = some (sn (d + 90)) := by
  unfold spec_l2Cosine.f
  rw [w64 (x := d + 90) (by omega) (by omega), specSine_eq]
  rfl
theorem implCos_eq {d : Int} (h0 : -1000000 ≤ d) (h1 : d ≤ 1000000) : impl_cosine.f d = some (sn (d + 90)) := by
  unfold impl_cosine.f
  rw [w64 (x := d + 90) (by omega) (by omega), implSine_eq]
  rfl

/-- a divided by 1000, rounded. -/
def rnd (a : Int) : Int := if a < 0 then -((2 * -a + 1000) / 2000) else (2 * a + 1000) / 2000
theorem rnd_bound {a : Int} (h0 : -2000000000 ≤ a) (h1 : a ≤ 2000000000) : -2000001 ≤ rnd a ∧ rnd a ≤ 2000001 := by
  unfold rnd
  split <;> omega

theorem l2Div_eq {a : Int} (h0 : -2000000000 ≤ a) (h1 : a ≤ 2000000000) : spec_l2Div.f a 1000 = some (rnd a) := by
  unfold spec_l2Div.f rnd
  have e0 : wrap64 (2 * 1000) = 2000 := w64 (by omega) (by omega)
  rw [e0]
  by_cases hn : a < 0
  · have e1 : wrap64 (-2 * a) = 2 * -a := (w64 (by omega) (by omega)).trans (by omega)
    have e2 : wrap64 (2 * -a + 1000) = 2 * -a + 1000 := w64 (by omega) (by omega)
    have e3 : Int.tdiv (2 * -a + 1000) 2000 = (2 * -a + 1000) / 2000 := td (by omega)
    have e4 : wrap64 ((2 * -a + 1000) / 2000) = (2 * -a + 1000) / 2000 := w64 (by omega) (by omega)
    have e5 : wrap64 (-((2 * -a + 1000) / 2000)) = -((2 * -a + 1000) / 2000) := w64 (by omega) (by omega)
    rw [if_pos hn, if_neg (by omega), e1, e2, e3, e4, e5, if_pos hn]
  · have e1 : wrap64 (2 * a) = 2 * a := w64 (by omega) (by omega)
    have e2 : wrap64 (2 * a + 1000) = 2 * a + 1000 := w64 (by omega) (by omega)
    have e3 : Int.tdiv (2 * a + 1000) 2000 = (2 * a + 1000) / 2000 := td (by omega)
    have e4 : wrap64 ((2 * a + 1000) / 2000) = (2 * a + 1000) / 2000 := w64 (by omega) (by omega)
    rw [if_neg hn, if_neg (by omega), e1, e2, e3, e4, if_neg hn]

theorem rounded_pos (k : Nat) (a : Int) (h0 : 0 ≤ a) (h1 : a ≤ 2000000000) : impl_rounded.f (k + 1) a 1000 = some ((2 * a + 1000) / 2000) := by
  simp only [impl_rounded.f]
  rw [if_neg (by omega), w64 (x := 2 * 1000) (by omega) (by omega), if_neg (by omega), w64 (x := 2 * a) (by omega) (by omega), w64 (x := 2 * a + 1000) (by omega) (by omega), td (by omega)]
  exact congrArg some (w64 (by omega) (by omega))
theorem rounded_eq (k : Nat) (a : Int) (h0 : -2000000000 ≤ a) (h1 : a ≤ 2000000000) : impl_rounded.f (k + 2) a 1000 = some (rnd a) := by
  unfold rnd
  by_cases hn : a < 0
  · rw [if_pos hn, impl_rounded.f, if_pos hn, w64 (x := -a) (by omega) (by omega), rounded_pos k (-a) (by omega) (by omega)]
    exact congrArg some (w64 (by omega) (by omega))
  · rw [if_neg hn, rounded_pos (k + 1) a (by omega) h1]

theorem prod_bound {x s : Int} (hx : -100000 ≤ x ∧ x ≤ 100000) (hs : -1000 ≤ s ∧ s ≤ 1000) : -100000000 ≤ x * s ∧ x * s ≤ 100000000 := by
  have key : ∀ a b : Int, 0 ≤ a → a ≤ 100000 → -1000 ≤ b → b ≤ 1000 → -100000000 ≤ a * b ∧ a * b ≤ 100000000 := by
    intro a b h0 h1 h2 h3
    have e1 : a * b ≤ a * 1000 := Int.mul_le_mul_of_nonneg_left h3 h0
    have e2 : a * -1000 ≤ a * b := Int.mul_le_mul_of_nonneg_left h2 h0
    omega
  by_cases c : 0 ≤ x
  · exact key x s c hx.2 hs.1 hs.2
  · have := key (-x) s (by omega) (by omega) hs.1 hs.2
    rw [Int.neg_mul] at this
    omega
theorem wprod {x s : Int} (hx : -100000 ≤ x ∧ x ≤ 100000) (hs : -1000 ≤ s ∧ s ≤ 1000) : wrap64 (x * s) = x * s := by
  have := prod_bound hx hs
  exact w64 (by omega) (by omega)
/-- A length times the cosine and the sine, rounded. -/
def partP (x d : Int) : Int × Int := (rnd (x * sn (d + 90)), rnd (x * sn d))
theorem partOf_eq {k : Nat} (hk : 2 ≤ k) {x d : Int} (hx : -100000 ≤ x ∧ x ≤ 100000) (h0 : -1000000 ≤ d) (h1 : d ≤ 1000000) : impl_partOf.f k x d = some (partP x d) := by
  obtain ⟨k, rfl⟩ : ∃ m, k = m + 2 := ⟨k - 2, by omega⟩
  have b1 := prod_bound hx (sn_bound (d + 90))
  have b2 := prod_bound hx (sn_bound d)
  unfold impl_partOf.f
  rw [implCos_eq h0 h1, implSine_eq]
  simp only [Option.bind_some]
  rw [wprod hx (sn_bound (d + 90)), wprod hx (sn_bound d), rounded_eq k _ (by omega) (by omega), rounded_eq k _ (by omega) (by omega)]
  rfl

theorem sn_360 (d : Int) : sn (d + 360) = sn d := by
  unfold sn
  have e : (d + 360) % 360 = d % 360 := by omega
  rw [e]
theorem T_0 : T_ 0 = 0 := by decide
theorem T_180 : T_ 90 = 1000 := by decide
theorem sn_neg (d : Int) : sn (-d) = -sn d := by
  unfold sn
  have h0 : 0 ≤ d % 360 := by omega
  have h1 : d % 360 < 360 := by omega
  by_cases z : d % 360 = 0
  · have e : -d % 360 = 0 := by omega
    rw [e, z]
    decide
  · have e : -d % 360 = 360 - d % 360 := by omega
    rw [e]
    generalize d % 360 = m at *
    by_cases c1 : m < 90
    · have a1 : ¬ 360 - m ≤ 90 := by omega
      have a2 : ¬ 360 - m ≤ 180 := by omega
      have a3 : ¬ 360 - m ≤ 270 := by omega
      have a4 : m ≤ 90 := by omega
      have a5 : 360 - (360 - m) = m := by omega
      simp only [if_neg a1, if_neg a2, if_neg a3, if_pos a4, a5]
    · by_cases c2 : m = 90
      · subst c2; decide
      · by_cases c3 : m < 180
        · have a1 : ¬ 360 - m ≤ 90 := by omega
          have a2 : ¬ 360 - m ≤ 180 := by omega
          have a3 : 360 - m ≤ 270 := by omega
          have a4 : ¬ m ≤ 90 := by omega
          have a6 : m ≤ 180 := by omega
          have a5 : 360 - m - 180 = 180 - m := by omega
          simp only [if_neg a1, if_neg a2, if_pos a3, if_neg a4, if_pos a6, a5]
        · by_cases c4 : m = 180
          · subst c4; decide
          · by_cases c5 : m < 270
            · have a1 : ¬ 360 - m ≤ 90 := by omega
              have a2 : 360 - m ≤ 180 := by omega
              have a4 : ¬ m ≤ 90 := by omega
              have a6 : ¬ m ≤ 180 := by omega
              have a7 : m ≤ 270 := by omega
              have a5 : 180 - (360 - m) = m - 180 := by omega
              simp only [if_neg a1, if_pos a2, if_neg a4, if_neg a6, if_pos a7, a5, Int.neg_neg]
            · by_cases c6 : m = 270
              · subst c6; decide
              · have a1 : 360 - m ≤ 90 := by omega
                have a4 : ¬ m ≤ 90 := by omega
                have a6 : ¬ m ≤ 180 := by omega
                have a7 : ¬ m ≤ 270 := by omega
                simp only [if_pos a1, if_neg a4, if_neg a6, if_neg a7, Int.neg_neg]
theorem sn_mod (d : Int) : sn d = sn (d % 360) := by
  unfold sn
  have e : d % 360 % 360 = d % 360 := by omega
  rw [e]
theorem sn_circle_table : ∀ i : Fin 360, 998000 ≤ sn (i : Nat) * sn (i : Nat) + sn ((i : Nat) + 90) * sn ((i : Nat) + 90) ∧ sn (i : Nat) * sn (i : Nat) + sn ((i : Nat) + 90) * sn ((i : Nat) + 90) ≤ 1002000 := by decide +kernel
theorem sn_circle (d : Int) : 998000 ≤ sn d * sn d + sn (d + 90) * sn (d + 90) ∧ sn d * sn d + sn (d + 90) * sn (d + 90) ≤ 1002000 := by
  have h0 : 0 ≤ d % 360 := by omega
  have h1 : d % 360 < 360 := by omega
  have h := sn_circle_table ⟨(d % 360).toNat, by omega⟩
  have e : (((d % 360).toNat : Nat) : Int) = d % 360 := Int.toNat_of_nonneg h0
  have e2 : sn (d + 90) = sn (d % 360 + 90) := by
    rw [sn_mod (d + 90), sn_mod (d % 360 + 90)]
    have e : (d % 360 + 90) % 360 = (d + 90) % 360 := by omega
    rw [e]
  rw [sn_mod d, e2]
  simpa only [e] using h
theorem rnd_neg (a : Int) : rnd (-a) = -rnd a := by
  unfold rnd
  by_cases z : a = 0
  · subst z; decide
  · by_cases c : a < 0
    · rw [if_neg (by omega), if_pos c]; omega
    · rw [if_pos (by omega), if_neg c, Int.neg_neg]
def vAng (d : Int) : Bool := decide (-3600 ≤ d ∧ d ≤ 3600)
def sineR (d : Int) : Int × Bool := if vAng d = true then (sn d, true) else (0, false)
def cosR (d : Int) : Int × Bool := if vAng d = true then (sn (d + 90), true) else (0, false)
theorem vAng_iff {d : Int} : vAng d = true ↔ -3600 ≤ d ∧ d ≤ 3600 := by unfold vAng; exact decide_eq_true_iff
theorem isAngle_eq (d : Int) : impl_isAngle.f d = some (vAng d) := by unfold impl_isAngle.f; rw [within_eq]; rfl
theorem l2Angle_eq (d : Int) : spec_l2Angle.f d = some (vAng d) := by unfold spec_l2Angle.f; rw [l1In_eq]; rfl
theorem implSineOf_eq (d : Int) : impl_SineOf.f d = some (sineR d) := by
  unfold impl_SineOf.f sineR
  rw [isAngle_eq, implSine_eq]
  simp only [Option.bind_some]
  split <;> rfl
theorem implCosOf_eq (d : Int) : impl_CosineOf.f d = some (cosR d) := by
  unfold impl_CosineOf.f cosR
  rw [isAngle_eq]
  simp only [Option.bind_some]
  by_cases h : vAng d = true
  · have := vAng_iff.mp h
    rw [if_pos h, if_pos h, implCos_eq (by omega) (by omega)]; rfl
  · rw [if_neg h, if_neg h]

theorem turn_eq {a b : Int} (ha : 0 ≤ a ∧ a ≤ 359) (hb : 0 ≤ b ∧ b ≤ 359) : ∃ t, spec_TurnBetween.f a b = some (t, true) ∧ impl_turn.f a b = some t := by
  unfold spec_TurnBetween.f spec_l2Bearing.f
  rw [l1In_eq, l1In_eq]
  simp only [Option.bind_some, ha, hb, and_self, decide_true, if_true]
  have e1 : wrap64 (a - b) = a - b := w64 (by omega) (by omega)
  have e2 : wrap64 (a - b + 360) = a - b + 360 := w64 (by omega) (by omega)
  have e3 : wrap64 (-(a - b)) = -(a - b) := w64 (by omega) (by omega)
  have e4 : Int.tmod (a - b + 360) 360 = (a - b + 360) % 360 := tm (by omega)
  have e5 : wrap64 (360 - (a - b + 360) % 360) = 360 - (a - b + 360) % 360 := w64 (by omega) (by omega)
  have hm : 0 ≤ mx (a - b) (-(a - b)) ∧ mx (a - b) (-(a - b)) ≤ 359 ∧ (mx (a - b) (-(a - b)) = a - b ∨ mx (a - b) (-(a - b)) = -(a - b)) := by unfold mx; omega
  have e6 : wrap64 (360 - mx (a - b) (-(a - b))) = 360 - mx (a - b) (-(a - b)) := w64 (by omega) (by omega)
  unfold spec_l1Least.f impl_turn.f impl_absolute.f
  simp only [e1, e2, e3, e4, e5, Option.bind_some, e6]
  generalize mx (a - b) (-(a - b)) = m at *
  have key : mn m (360 - m) = if (a - b + 360) % 360 < 360 - (a - b + 360) % 360 then (a - b + 360) % 360 else 360 - (a - b + 360) % 360 := by
    unfold mn; omega
  refine ⟨_, ?_, rfl⟩
  rw [key]
  split <;> rfl

theorem rd_u8 {l : List Int} (hl : ∀ y ∈ l, (Lit.int .u8 y).wf = true) (i : Int) : 0 ≤ rd l i ∧ rd l i ≤ 255 := by
  unfold rd
  rw [List.getD_eq_getElem?_getD]
  cases e : l[i.toNat]? with
  | none => simp
  | some x =>
    have h := hl x (List.mem_of_getElem? e)
    simp only [Lit.wf, Bool.and_eq_true, decide_eq_true_eq] at h
    have h2 : 0 ≤ x ∧ x ≤ 255 := h
    simpa using h2
theorem and_255 (x : Int) (h0 : 0 ≤ x) (h1 : x < 18446744073709551616) : 0 ≤ Go.bits .and .u64 x 255 ∧ Go.bits .and .u64 x 255 ≤ 255 := by
  have h := bits_and_u64_nat x.toNat 255 (by omega) (by omega)
  have e : ((x.toNat : Nat) : Int) = x := Int.toNat_of_nonneg h0
  rw [e] at h
  have e2 : ((255 : Nat) : Int) = 255 := rfl
  rw [e2] at h
  rw [h]
  have := Nat.and_le_right (n := x.toNat) (m := 255)
  omega
/-- A state's place: not negative, and not too far. -/
def Pl (p : Int) : Prop := 0 ≤ p ∧ p ≤ 1000000
theorem u64_bound (x : Int) : 0 ≤ IntKind.u64.wrap x ∧ IntKind.u64.wrap x < 18446744073709551616 := by
  have e : IntKind.u64.wrap x = x % 18446744073709551616 := rfl
  rw [e]
  omega
theorem next_ok {l : List Int} (hl : ∀ y ∈ l, (Lit.int .u8 y).wf = true) (p q : Int) (h0 : 0 ≤ p) (h1 : p ≤ 1000000) : ∃ v p' q', spec_l1Cur_next.f l p q = some (v, p', q') ∧ 0 ≤ v ∧ v ≤ 255 ∧ 0 ≤ p' ∧ p' ≤ p + 1 := by
  have ep : wrap64 (p + 1) = p + 1 := w64 (by omega) (by omega)
  have hd : ∀ x : Int, 0 ≤ wrap64 (Go.bits .and .u64 (IntKind.u64.wrap x / 1099511627776) 255) ∧ wrap64 (Go.bits .and .u64 (IntKind.u64.wrap x / 1099511627776) 255) ≤ 255 := by
    intro x
    have hb := u64_bound x
    have h := and_255 (IntKind.u64.wrap x / 1099511627776) (by omega) (by omega)
    rw [w64 (by omega) (by omega)]
    exact h
  unfold spec_l1Cur_next.f
  rw [ep]
  have hr := rd_u8 hl p
  have er : wrap64 (rd l p) = rd l p := w64 (by omega) (by omega)
  by_cases c : p < (l.length : Int)
  · have c2 : p + 1 ≤ (l.length : Int) := by omega
    simp only [if_pos c, if_pos h0, if_pos c2]
    exact ⟨_, _, _, rfl, by rw [er]; exact hr.1, by rw [er]; exact hr.2, by omega, by omega⟩
  · have c2 : ¬ p + 1 ≤ (l.length : Int) := by omega
    simp only [if_neg c, if_neg c2]
    exact ⟨_, _, _, rfl, (hd _).1, (hd _).2, by omega, by omega⟩
theorem pick_ok {l : List Int} (hl : ∀ y ∈ l, (Lit.int .u8 y).wf = true) (p q n : Int) (h0 : 0 ≤ p) (h1 : p ≤ 900000) (hn : 1 ≤ n) (hn1 : n ≤ 1000000) : ∃ v p' q', spec_l1Cur_pick.f l p q n = some (v, p', q') ∧ 0 ≤ v ∧ v < n ∧ 0 ≤ p' ∧ p' ≤ p + 2 := by
  unfold spec_l1Cur_pick.f
  by_cases c : n ≤ 1
  · rw [if_pos c]
    exact ⟨_, _, _, rfl, by omega, by omega, by omega, by omega⟩
  · have cz : ¬ n = 0 := by omega
    obtain ⟨v, p1, q1, e1, a1, a2, a3, a4⟩ := next_ok hl p q h0 (by omega)
    rw [if_neg c, e1]
    simp only [Option.bind_some, if_neg cz]
    by_cases c2 : n > 200
    · obtain ⟨v2, p2, q2, e2, b1, b2, b3, b4⟩ := next_ok hl p1 q1 a3 (by omega)
      rw [if_pos c2, e2]
      simp only [Option.bind_some]
      rw [w64 (x := v * 256) (by omega) (by omega), w64 (x := v * 256 + v2) (by omega) (by omega), Int.tmod_eq_emod_of_nonneg (by omega)]
      exact ⟨_, _, _, rfl, Int.emod_nonneg _ cz, Int.emod_lt_of_pos _ (by omega), by omega, by omega⟩
    · rw [if_neg c2, Int.tmod_eq_emod_of_nonneg (by omega)]
      exact ⟨_, _, _, rfl, Int.emod_nonneg _ cz, Int.emod_lt_of_pos _ (by omega), by omega, by omega⟩
theorem among_ok {l : List Int} (hl : ∀ y ∈ l, (Lit.int .u8 y).wf = true) (p q : Int) (xs : List Int) (h0 : 0 ≤ p) (h1 : p ≤ 900000) (hx : 1 ≤ xs.length) (hx1 : xs.length ≤ 1000000) {P : Int → Prop} (hP : ∀ x ∈ xs, P x) : ∃ v p' q', spec_l1Cur_among.f l p q xs = some (v, p', q') ∧ P v ∧ 0 ≤ p' ∧ p' ≤ p + 2 := by
  obtain ⟨v, p1, q1, e1, a1, a2, a3, a4⟩ := pick_ok hl p q (xs.length : Int) h0 h1 (by omega) (by omega)
  unfold spec_l1Cur_among.f
  rw [e1]
  simp only [Option.bind_some]
  rw [if_pos a1, if_pos a2]
  refine ⟨_, _, _, rfl, ?_, a3, a4⟩
  have hv : v.toNat < xs.length := by omega
  have e : rd xs v = xs[v.toNat] := by unfold rd; rw [List.getD_eq_getElem?_getD, List.getElem?_eq_getElem hv]; rfl
  rw [e]
  exact hP _ (List.getElem_mem hv)

theorem one_ok {l : List Int} (hl : ∀ y ∈ l, (Lit.int .u8 y).wf = true) (p q n : Int) (h0 : 0 ≤ p) (h1 : p ≤ 900000) (hn : 1 ≤ n) (hn1 : n ≤ 1000000) : ∃ b p' q', spec_l1Cur_one.f l p q n = some (b, p', q') ∧ 0 ≤ p' ∧ p' ≤ p + 2 := by
  obtain ⟨v, p1, q1, e1, a1, a2, a3, a4⟩ := pick_ok hl p q n h0 h1 hn hn1
  unfold spec_l1Cur_one.f
  rw [e1]
  exact ⟨_, _, _, rfl, a3, a4⟩

theorem long_ok {l : List Int} (hl : ∀ y ∈ l, (Lit.int .u8 y).wf = true) (p q : Int) (h0 : 0 ≤ p) (h1 : p ≤ 800000) : ∃ v p' q', spec_l1Cur_long.f l p q = some (v, p', q') ∧ (-100001 ≤ v ∧ v ≤ 100001) ∧ 0 ≤ p' ∧ p' ≤ p + 4 := by
  obtain ⟨b, p1, q1, e1, a3, a4⟩ := one_ok hl p q 24 h0 (by omega) (by omega) (by omega)
  unfold spec_l1Cur_long.f
  rw [e1]
  simp only [Option.bind_some]
  cases b with
  | true =>
    obtain ⟨v, p2, q2, e2, b1, b2, b3⟩ := among_ok hl p1 q1 [(-100001), (-100000), 100000, 100001] a3 (by omega) (by decide) (by decide) (P := fun v => -100001 ≤ v ∧ v ≤ 100001) (by decide)
    rw [if_pos rfl, e2]
    exact ⟨_, _, _, rfl, b1, b2, show p2 ≤ p + 4 by omega⟩
  | false =>
    obtain ⟨v, p2, q2, e2, b1, b2, b3⟩ := among_ok hl p1 q1 [0, 0, 1, (-1), 10, (-25), 123, 500, (-1000), 7777] a3 (by omega) (by decide) (by decide) (P := fun v => -100001 ≤ v ∧ v ≤ 100001) (by decide)
    rw [if_neg (by decide), e2]
    exact ⟨_, _, _, rfl, b1, b2, show p2 ≤ p + 4 by omega⟩

theorem bear_ok {l : List Int} (hl : ∀ y ∈ l, (Lit.int .u8 y).wf = true) (p q : Int) (h0 : 0 ≤ p) (h1 : p ≤ 800000) : ∃ v p' q', spec_l1Cur_bearing.f l p q = some (v, p', q') ∧ (-1 ≤ v ∧ v ≤ 360) ∧ 0 ≤ p' ∧ p' ≤ p + 4 := by
  obtain ⟨b, p1, q1, e1, a3, a4⟩ := one_ok hl p q 20 h0 (by omega) (by omega) (by omega)
  unfold spec_l1Cur_bearing.f
  rw [e1]
  simp only [Option.bind_some]
  cases b with
  | true =>
    obtain ⟨v, p2, q2, e2, b1, b2, b3⟩ := among_ok hl p1 q1 [(-1), 359, 360] a3 (by omega) (by decide) (by decide) (P := fun v => -1 ≤ v ∧ v ≤ 360) (by decide)
    rw [if_pos rfl, e2]
    exact ⟨_, _, _, rfl, b1, b2, show p2 ≤ p + 4 by omega⟩
  | false =>
    obtain ⟨v, p2, q2, e2, b1, b2, b3, b4⟩ := pick_ok hl p1 q1 360 a3 (by omega) (by omega) (by omega)
    rw [if_neg (by decide), e2]
    exact ⟨_, _, _, rfl, ⟨by omega, by omega⟩, b3, show p2 ≤ p + 4 by omega⟩

theorem deg_ok {l : List Int} (hl : ∀ y ∈ l, (Lit.int .u8 y).wf = true) (p q : Int) (h0 : 0 ≤ p) (h1 : p ≤ 800000) : ∃ v p' q', spec_l1Cur_degrees.f l p q = some (v, p', q') ∧ (-3601 ≤ v ∧ v ≤ 3601) ∧ 0 ≤ p' ∧ p' ≤ p + 4 := by
  obtain ⟨b, p1, q1, e1, a1, a2, a3, a4⟩ := pick_ok hl p q 16 h0 (by omega) (by omega) (by omega)
  unfold spec_l1Cur_degrees.f
  rw [e1]
  simp only [Option.bind_some]
  by_cases c : b = 0
  · obtain ⟨v, p2, q2, e2, b1, b2, b3⟩ := among_ok hl p1 q1 [(-3601), (-3600), 3600, 3601] a3 (by omega) (by decide) (by decide) (P := fun v => -3601 ≤ v ∧ v ≤ 3601) (by decide)
    rw [if_pos c, e2]
    exact ⟨_, _, _, rfl, b1, b2, show p2 ≤ p + 4 by omega⟩
  · rw [if_neg c]
    by_cases c : b = 1
    · obtain ⟨v, p2, q2, e2, b1, b2, b3⟩ := among_ok hl p1 q1 [0, 90, 180, 270, 360, (-90), (-180), (-270), 45, 450] a3 (by omega) (by decide) (by decide) (P := fun v => -3601 ≤ v ∧ v ≤ 3601) (by decide)
      rw [if_pos c, e2]
      exact ⟨_, _, _, rfl, b1, b2, show p2 ≤ p + 4 by omega⟩
    · obtain ⟨v, p2, q2, e2, b1, b2, b3, b4⟩ := pick_ok hl p1 q1 720 a3 (by omega) (by omega) (by omega)
      rw [if_neg c, e2]
      simp only [Option.bind_some]
      rw [w64 (x := v - 360) (by omega) (by omega)]
      exact ⟨_, _, _, rfl, ⟨by omega, by omega⟩, b3, show p2 ≤ p + 4 by omega⟩

theorem specSineOf_eq (d : Int) : spec_SineOf.f d = some (sineR d) := by
  unfold spec_SineOf.f sineR
  rw [l2Angle_eq, specSine_eq]
  simp only [Option.bind_some]
  split <;> rfl
theorem specCosOf_eq (d : Int) : spec_CosineOf.f d = some (cosR d) := by
  unfold spec_CosineOf.f cosR
  rw [l2Angle_eq]
  simp only [Option.bind_some]
  by_cases h : vAng d = true
  · have := vAng_iff.mp h
    rw [if_pos h, if_pos h, specCos_eq (by omega) (by omega)]; rfl
  · rw [if_neg h, if_neg h]
/-- PartOf. -/
def vLen (x : Int) : Bool := decide (-100000 ≤ x ∧ x ≤ 100000)
theorem vLen_iff {d : Int} : vLen d = true ↔ -100000 ≤ d ∧ d ≤ 100000 := by unfold vLen; exact decide_eq_true_iff
def partR (x d : Int) : Int × Int × Bool := if vLen x = true ∧ vAng d = true then (rnd (x * sn (d + 90)), rnd (x * sn d), true) else (0, 0, false)
theorem implPartOf_eq {k : Nat} (hk : 2 ≤ k) (x d : Int) : impl_PartOf.f k x d = some (partR x d) := by
  unfold impl_PartOf.f partR impl_isLength.f
  rw [within_eq, isAngle_eq]
  simp only [Option.bind_some]
  have e : decide (-100000 ≤ x ∧ x ≤ 100000) = vLen x := rfl
  rw [e]
  by_cases h : vLen x = true
  · by_cases h2 : vAng d = true
    · have a := vLen_iff.mp h
      have b := vAng_iff.mp h2
      rw [if_pos h, if_pos h2, if_pos ⟨h, h2⟩, partOf_eq hk a (by omega) (by omega)]; rfl
    · rw [if_pos h, if_neg h2, if_neg (fun z => h2 z.2)]
  · rw [if_neg h, if_neg (fun z => h z.1)]
theorem specPartOf_eq {k : Nat} (hk : 1 ≤ k) (x d : Int) : spec_PartOf.f k x d = some (partR x d) := by
  obtain ⟨k, rfl⟩ : ∃ m, k = m + 1 := ⟨k - 1, by omega⟩
  unfold spec_PartOf.f partR spec_l2Long.f
  rw [l1In_eq, l2Angle_eq]
  simp only [Option.bind_some]
  have e : decide (-100000 ≤ x ∧ x ≤ 100000) = vLen x := rfl
  rw [e]
  by_cases h : vLen x = true
  · by_cases h2 : vAng d = true
    · have c := vLen_iff.mp h
      have c2 := vAng_iff.mp h2
      have b1 := prod_bound c (sn_bound (d + 90))
      have b2 := prod_bound c (sn_bound d)
      rw [if_pos h, if_pos ⟨h, h2⟩]
      simp only [h2, Bool.not_true, spec_PartOf.j0, Bool.false_eq_true, if_false, specCos_eq (show -1000000 ≤ d by omega) (by omega), specSine_eq, wprod c (sn_bound (d + 90)), wprod c (sn_bound d), l2Div_eq (show -2000000000 ≤ x * sn (d + 90) by omega) (by omega), l2Div_eq (show -2000000000 ≤ x * sn d by omega) (by omega), Option.bind_some]
    · rw [if_pos h, if_neg (fun z => h2 z.2)]
      simp [h2, spec_PartOf.j0]
  · rw [if_neg h, if_neg (fun z => h z.1)]
    simp [spec_PartOf.j0]
theorem partR_neg (x d : Int) : partR (-x) d = (-(partR x d).1, -(partR x d).2.1, (partR x d).2.2) := by
  have e : vLen (-x) = vLen x := by unfold vLen; exact decide_eq_decide.mpr (by omega)
  unfold partR
  rw [e]
  split
  · rw [Int.neg_mul, Int.neg_mul, rnd_neg, rnd_neg]
  · rfl
/-- The nearest whole number to a / b. -/
def dv (a b : Int) : Int := if a < 0 then -((2 * -a + b) / (2 * b)) else (2 * a + b) / (2 * b)
def vDiv (a b : Int) : Prop := (-1000000000 ≤ a ∧ a ≤ 1000000000) ∧ 1 ≤ b ∧ b ≤ 1000000
instance (a b : Int) : Decidable (vDiv a b) := by unfold vDiv; infer_instance
def divR (a b : Int) : Int × Bool := if vDiv a b then (dv a b, true) else (0, false)
theorem quo_bound {x b : Int} (h0 : 0 ≤ x) (h1 : x ≤ 1000000000) (hb : 1 ≤ b ∧ b ≤ 1000000) : 0 ≤ (2 * x + b) / (2 * b) ∧ (2 * x + b) / (2 * b) ≤ 2001000000 ∧ 2 * (b * ((2 * x + b) / (2 * b))) ≤ 2 * x + b ∧ 2 * x + b < 2 * (b * ((2 * x + b) / (2 * b))) + 2 * b := by
  have a1 : 0 ≤ (2 * x + b) / (2 * b) := Int.ediv_nonneg (by omega) (by omega)
  have a2 : (2 * x + b) / (2 * b) ≤ 2 * x + b := Int.ediv_le_self _ (by omega)
  have a3 := Int.mul_ediv_self_le (x := 2 * x + b) (k := 2 * b) (by omega)
  have a4 := Int.lt_mul_ediv_self_add (x := 2 * x + b) (k := 2 * b) (by omega)
  rw [Int.mul_assoc] at a3 a4
  exact ⟨a1, by omega, a3, a4⟩
theorem dv_fact {a b : Int} (h : vDiv a b) : -2001000000 ≤ dv a b ∧ dv a b ≤ 2001000000 ∧ 2 * (dv a b * b) - 2 * a ≤ b ∧ -b ≤ 2 * (dv a b * b) - 2 * a := by
  obtain ⟨⟨h0, h1⟩, hb⟩ := h
  unfold dv
  split
  · have := quo_bound (x := -a) (by omega) (by omega) hb
    generalize (2 * -a + b) / (2 * b) = q at *
    rw [Int.neg_mul, Int.mul_comm q b]
    generalize b * q = m at *
    omega
  · have := quo_bound (x := a) (by omega) (by omega) hb
    generalize (2 * a + b) / (2 * b) = q at *
    rw [Int.mul_comm q b]
    generalize b * q = m at *
    omega
theorem tdq {x b : Int} (h0 : 0 ≤ x) (h1 : x ≤ 1000000000) (hb : 1 ≤ b ∧ b ≤ 1000000) : wrap64 (Int.tdiv (wrap64 (wrap64 (2 * x) + b)) (wrap64 (2 * b))) = (2 * x + b) / (2 * b) := by
  have q := quo_bound h0 h1 hb
  rw [w64 (x := 2 * x) (by omega) (by omega), w64 (x := 2 * x + b) (by omega) (by omega), w64 (x := 2 * b) (by omega) (by omega), Int.tdiv_eq_ediv_of_nonneg (by omega)]
  exact w64 (by omega) (by omega)
theorem implDiv_eq {k : Nat} (hk : 2 ≤ k) (a b : Int) : impl_RoundedDiv.f k a b = some (divR a b) := by
  obtain ⟨k, rfl⟩ : ∃ m, k = m + 2 := ⟨k - 2, by omega⟩
  unfold impl_RoundedDiv.f divR
  rw [within_eq, within_eq]
  simp only [Option.bind_some, decide_eq_true_eq]
  by_cases c : -1000000000 ≤ a ∧ a ≤ 1000000000
  · by_cases c2 : 1 ≤ b ∧ b ≤ 1000000
    · have e2b : wrap64 (2 * b) = 2 * b := w64 (by omega) (by omega)
      have hz : ¬ wrap64 (2 * b) = 0 := by omega
      rw [if_pos c, if_pos c2, if_pos (show vDiv a b from ⟨c, c2⟩)]
      simp only [impl_rounded.f]
      unfold dv
      by_cases hn : a < 0
      · have e3 : wrap64 (-a) = -a := w64 (by omega) (by omega)
        have hn' : ¬ -a < 0 := by omega
        have q := quo_bound (x := -a) (by omega) (by omega) c2
        rw [if_pos hn, if_pos hn, e3, if_neg hn', if_neg hz, tdq (by omega) (by omega) c2]
        simp only [Option.bind_some]
        rw [w64 (x := -((2 * -a + b) / (2 * b))) (by omega) (by omega)]
      · rw [if_neg hn, if_neg hn, if_neg hz, tdq (by omega) (by omega) c2]
        rfl
    · rw [if_pos c, if_neg c2, if_neg (fun z => c2 z.2)]
  · rw [if_neg c, if_neg (fun z => c z.1)]
theorem specDiv_eq (a b : Int) : spec_RoundedDiv.f a b = some (divR a b) := by
  unfold spec_RoundedDiv.f divR
  rw [l1In_eq, l1In_eq]
  simp only [Option.bind_some, decide_eq_true_eq]
  by_cases c : -1000000000 ≤ a ∧ a ≤ 1000000000
  · by_cases c2 : 1 ≤ b ∧ b ≤ 1000000
    · have e2b : wrap64 (2 * b) = 2 * b := w64 (by omega) (by omega)
      have hz : ¬ wrap64 (2 * b) = 0 := by omega
      rw [if_pos c, if_pos c2, if_pos (show vDiv a b from ⟨c, c2⟩)]
      unfold dv spec_l2Div.f
      by_cases hn : a < 0
      · have e3 : (-2 * a : Int) = 2 * -a := by omega
        have q := quo_bound (x := -a) (by omega) (by omega) c2
        rw [if_pos hn, if_pos hn, if_neg hz, e3, tdq (by omega) (by omega) c2]
        simp only [Option.bind_some]
        rw [w64 (x := -((2 * -a + b) / (2 * b))) (by omega) (by omega)]
      · rw [if_neg hn, if_neg hn, if_neg hz, tdq (by omega) (by omega) c2]
        rfl
    · rw [if_pos c, if_neg c2, if_neg (fun z => c2 z.2)]
  · rw [if_neg c, if_neg (fun z => c z.1)]
/-- The turn between two bearings. -/
def tn (a b : Int) : Int := mn (mx (a - b) (-(a - b))) (360 - mx (a - b) (-(a - b)))
def vBear (d : Int) : Bool := decide (0 ≤ d ∧ d ≤ 359)
theorem vBear_iff {d : Int} : vBear d = true ↔ 0 ≤ d ∧ d ≤ 359 := by unfold vBear; exact decide_eq_true_iff
def turnR (a b : Int) : Int × Bool := if vBear a = true ∧ vBear b = true then (tn a b, true) else (0, false)
theorem implTurn_eq {a b : Int} (ha : 0 ≤ a ∧ a ≤ 359) (hb : 0 ≤ b ∧ b ≤ 359) : impl_turn.f a b = some (tn a b) := by
  unfold impl_turn.f impl_absolute.f tn
  rw [w64 (x := a - b) (by omega) (by omega), w64 (x := -(a - b)) (by omega) (by omega)]
  simp only [Option.bind_some]
  rw [w64 (x := 360 - mx (a - b) (-(a - b))) (by unfold mx; omega) (by unfold mx; omega)]
theorem implTurnR_eq (a b : Int) : impl_TurnBetween.f a b = some (turnR a b) := by
  unfold impl_TurnBetween.f turnR impl_isBearing.f
  rw [within_eq, within_eq]
  simp only [Option.bind_some]
  have e : ∀ d : Int, decide (0 ≤ d ∧ d ≤ 359) = vBear d := fun _ => rfl
  rw [e, e]
  by_cases h : vBear a = true
  · by_cases h2 : vBear b = true
    · rw [if_pos h, if_pos h2, if_pos ⟨h, h2⟩, implTurn_eq (vBear_iff.mp h) (vBear_iff.mp h2)]; rfl
    · rw [if_pos h, if_neg h2, if_neg (fun z => h2 z.2)]
  · rw [if_neg h, if_neg (fun z => h z.1)]
theorem specTurnR_eq (a b : Int) : spec_TurnBetween.f a b = some (turnR a b) := by
  unfold turnR
  by_cases h : vBear a = true
  · by_cases h2 : vBear b = true
    · obtain ⟨t, e1, e2⟩ := turn_eq (vBear_iff.mp h) (vBear_iff.mp h2)
      rw [implTurn_eq (vBear_iff.mp h) (vBear_iff.mp h2)] at e2
      rw [if_pos ⟨h, h2⟩, e1, Option.some.inj e2]
    · rw [if_neg (fun z => h2 z.2)]
      unfold spec_TurnBetween.f spec_l2Bearing.f
      rw [l1In_eq, l1In_eq]
      simp only [Option.bind_some]
      have e : ∀ d : Int, decide (0 ≤ d ∧ d ≤ 359) = vBear d := fun _ => rfl
      rw [e, e, if_pos h, if_neg h2]
  · rw [if_neg (fun z => h z.1)]
    unfold spec_TurnBetween.f spec_l2Bearing.f
    rw [l1In_eq]
    simp only [Option.bind_some]
    have e : ∀ d : Int, decide (0 ≤ d ∧ d ≤ 359) = vBear d := fun _ => rfl
    rw [e, if_neg h]
theorem tn_comm (a b : Int) : tn b a = tn a b := by unfold tn mx mn; omega
theorem tn_fact {a b : Int} (ha : 0 ≤ a ∧ a ≤ 359) (hb : 0 ≤ b ∧ b ≤ 359) : 0 ≤ tn a b ∧ tn a b ≤ 180 := by unfold tn mx mn; omega
theorem drawTurn_ok {l : List Int} (hw : ∀ y ∈ l, (Lit.int .u8 y).wf = true) : ∃ a b, spec_DrawTurnBetween.f l = some (a, b) := by
  unfold spec_DrawTurnBetween.f spec_DrawTurnBetween_in.f
  obtain ⟨v, p1, q1, e1, a1, a2, a3⟩ := bear_ok hw 0 0 (by omega) (by omega)
  obtain ⟨v2, p2, q2, e2, b1, b2, b3⟩ := bear_ok hw p1 q1 a2 (by omega)
  exact ⟨v, v2, by rw [e1]; simp only [Option.bind_some]; rw [e2]; rfl⟩
theorem drawPart_ok {l : List Int} (hw : ∀ y ∈ l, (Lit.int .u8 y).wf = true) : ∃ a b, spec_DrawPartOf.f l = some (a, b) ∧ (-100001 ≤ a ∧ a ≤ 100001) := by
  unfold spec_DrawPartOf.f spec_DrawPartOf_in.f
  obtain ⟨v, p1, q1, e1, a1, a2, a3⟩ := long_ok hw 0 0 (by omega) (by omega)
  obtain ⟨v2, p2, q2, e2, b1, b2, b3⟩ := deg_ok hw p1 q1 a2 (by omega)
  exact ⟨v, v2, by rw [e1]; simp only [Option.bind_some]; rw [e2]; rfl, a1⟩
theorem drawSine_ok {l : List Int} (hw : ∀ y ∈ l, (Lit.int .u8 y).wf = true) : ∃ a, spec_DrawSineOf.f l = some a ∧ (-3601 ≤ a ∧ a ≤ 3601) := by
  unfold spec_DrawSineOf.f spec_DrawSineOf_in.f
  obtain ⟨v, p1, q1, e1, a1, a2, a3⟩ := deg_ok hw 0 0 (by omega) (by omega)
  exact ⟨v, by rw [e1]; rfl, a1⟩
theorem drawDiv_ok {l : List Int} (hw : ∀ y ∈ l, (Lit.int .u8 y).wf = true) : ∃ a b, spec_DrawRoundedDiv.f l = some (a, b) := by
  unfold spec_DrawRoundedDiv.f spec_DrawRoundedDiv_in.f
  obtain ⟨v, p1, q1, e1, a1, a2, a3⟩ := among_ok hw 0 0 [0, 1, (-1), 5, (-5), 7, 15, (-15), 1000, (-2500), 1000000000, (-1000000001)] (by omega) (by omega) (by decide) (by decide) (P := fun _ => True) (fun _ _ => trivial)
  obtain ⟨v2, p2, q2, e2, b0, b1, b2, b3⟩ := pick_ok hw p1 q1 3 a2 (by omega) (by omega) (by omega)
  obtain ⟨v3, p3, q3, e3, c1, c2, c3⟩ := among_ok hw p2 q2 [1, 2, 10, 1000, 3, 0, 1000000, 1000001, 7] b2 (by omega) (by decide) (by decide) (P := fun _ => True) (fun _ _ => trivial)
  exact ⟨_, v3, by rw [e1]; simp only [Option.bind_some]; rw [e2]; simp only [Option.bind_some]; rw [e3]; rfl⟩
section
variable {l : List Int} (hw : ∀ y ∈ l, (Lit.int .u8 y).wf = true)
include hw
theorem j7_ok (k : Nat) : laws_FnAngles.j7 (k + 1) l = some true := by
  obtain ⟨a, b, e⟩ := drawTurn_ok hw
  simp only [laws_FnAngles.j7, e, Option.bind_some, implTurnR_eq, specTurnR_eq]
  unfold turnR
  by_cases h : vBear a = true ∧ vBear b = true
  · have f := tn_fact (vBear_iff.mp h.1) (vBear_iff.mp h.2)
    rw [if_pos h, if_pos h.symm, tn_comm a b]
    simp [f.1, f.2]
  · have h' : ¬ (vBear b = true ∧ vBear a = true) := fun z => h ⟨z.2, z.1⟩
    rw [if_neg h, if_neg h']
    simp
theorem j6_ok (k : Nat) {x d : Int} (hx : -100001 ≤ x ∧ x ≤ 100001) : laws_FnAngles.j6 (k + 3) l x d (partR x d).1 (partR x d).2.1 (partR x d).2.2 false = some true := by
  have e : wrap64 (-x) = -x := w64 (by omega) (by omega)
  simp only [laws_FnAngles.j6, Bool.false_eq_true, if_false, e, implPartOf_eq (show 2 ≤ k + 2 by omega), partR_neg, Option.bind_some, j7_ok hw]
  unfold partR
  by_cases h : vLen x = true ∧ vAng d = true
  · have c := vLen_iff.mp h.1
    have b1 := prod_bound c (sn_bound (d + 90))
    have b2 := prod_bound c (sn_bound d)
    have r1 := rnd_bound (a := x * sn (d + 90)) (by omega) (by omega)
    have r2 := rnd_bound (a := x * sn d) (by omega) (by omega)
    rw [if_pos h]
    simp only [if_true]
    rw [w64 (x := -(rnd (x * sn (d + 90)))) (by omega) (by omega), w64 (x := -(rnd (x * sn d))) (by omega) (by omega)]
    simp
  · rw [if_neg h]
    simp
theorem j5_ok (k : Nat) : laws_FnAngles.j5 (k + 4) l false = some true := by
  obtain ⟨x, d, e, hx⟩ := drawPart_ok hw
  simp only [laws_FnAngles.j5, Bool.false_eq_true, if_false, e, Option.bind_some, implPartOf_eq (show 2 ≤ k + 3 by omega), specPartOf_eq (show 1 ≤ k + 3 by omega), if_true, bne_self_eq_false, j6_ok hw k hx]
theorem j4_ok (k : Nat) : laws_FnAngles.j4 (k + 5) l = some true := by
  obtain ⟨a, b, e⟩ := drawDiv_ok hw
  simp only [laws_FnAngles.j4, e, Option.bind_some, implDiv_eq (show 2 ≤ k + 4 by omega), specDiv_eq, if_true, bne_self_eq_false, Bool.false_eq_true, if_false, j5_ok hw]
  unfold divR
  by_cases h : vDiv a b
  · rw [if_pos h]
    obtain ⟨f1, f2, f3, f4⟩ := dv_fact h
    have hh : (-1000000000 ≤ a ∧ a ≤ 1000000000) ∧ 1 ≤ b ∧ b ≤ 1000000 := h
    generalize dv a b * b = m at *
    simp only [if_true]
    rw [w64 (x := m) (by omega) (by omega), w64 (x := m - a) (by omega) (by omega)]
    have key : ∀ t, -500000 ≤ t → 2 * t ≤ b → decide (wrap64 (2 * t) > b) = false := by
      intro t h0 h1
      rw [w64 (x := 2 * t) (by omega) (by omega)]
      exact decide_eq_false (by omega)
    unfold laws_vFar.f
    by_cases c : m - a < 0
    · rw [if_pos c]
      simp only [Option.bind_some]
      rw [w64 (x := -(m - a)) (by omega) (by omega), key _ (by omega) (by omega), j5_ok hw]
    · rw [if_neg c]
      simp only [Option.bind_some]
      rw [key _ (by omega) (by omega), j5_ok hw]
  · rw [if_neg h]
    simp
theorem j3_ok (k : Nat) {d : Int} (hd : -3600 ≤ d ∧ d ≤ 3600) : laws_FnAngles.j3 (k + 6) l d (sn d) false = some true := by
  have e : wrap64 (d + 360) = d + 360 := w64 (by omega) (by omega)
  simp only [laws_FnAngles.j3, Bool.false_eq_true, if_false, e, implSineOf_eq, Option.bind_some, j4_ok hw]
  unfold sineR
  by_cases h : vAng (d + 360) = true
  · rw [if_pos h, sn_360]; simp
  · rw [if_neg h]; simp
theorem j2_ok (k : Nat) {d : Int} (hd : -3600 ≤ d ∧ d ≤ 3600) : laws_FnAngles.j2 (k + 7) l d (sn d) (sn (d + 90)) false = some true := by
  have e : wrap64 (d + 90) = d + 90 := w64 (by omega) (by omega)
  simp only [laws_FnAngles.j2, Bool.false_eq_true, if_false, e, implSineOf_eq, Option.bind_some]
  unfold sineR
  by_cases h : vAng (d + 90) = true
  · rw [if_pos h]
    simp only [if_true, bne_self_eq_false, j3_ok hw k hd]
  · rw [if_neg h]
    simp only [Bool.false_eq_true, if_false, j3_ok hw k hd]
theorem j1_ok (k : Nat) (d : Int) (hb : -3601 ≤ d ∧ d ≤ 3601) : laws_FnAngles.j1 (k + 8) l d (sineR d).1 (sineR d).2 (cosR d).1 false = some true := by
  have e : wrap64 (-d) = -d := w64 (by omega) (by omega)
  simp only [laws_FnAngles.j1, Bool.false_eq_true, if_false, e, implSineOf_eq, Option.bind_some, j4_ok hw]
  unfold sineR cosR
  by_cases h : vAng d = true
  · have hd := vAng_iff.mp h
    have h2 : vAng (-d) = true := vAng_iff.mpr (by omega)
    have s1 := sn_bound d
    have s2 := sn_bound (d + 90)
    have c := sn_circle d
    have p1 := prod_bound (x := sn d) (s := sn d) (by omega) s1
    have p2 := prod_bound (x := sn (d + 90)) (s := sn (d + 90)) (by omega) s2
    rw [if_pos h, if_pos h, if_pos h2, sn_neg]
    have g : wrap64 (wrap64 (sn d * sn d) + wrap64 (sn (d + 90) * sn (d + 90))) = sn d * sn d + sn (d + 90) * sn (d + 90) := by
      rw [w64 (x := sn d * sn d) (by omega) (by omega), w64 (x := sn (d + 90) * sn (d + 90)) (by omega) (by omega)]
      exact w64 (by omega) (by omega)
    have g1 : ¬ sn d * sn d + sn (d + 90) * sn (d + 90) < 998000 := by omega
    have g2 : decide (sn d * sn d + sn (d + 90) * sn (d + 90) > 1002000) = false := decide_eq_false (by omega)
    simp only [if_true, w64 (x := -(sn d)) (show -9223372036854775808 ≤ -(sn d) by omega) (by omega), g, if_neg g1, g2, j2_ok hw k hd]
  · rw [if_neg h, if_neg h]
    simp
theorem j0_ok (k : Nat) (d : Int) (hb : -3601 ≤ d ∧ d ≤ 3601) : laws_FnAngles.j0 (k + 9) l d (sineR d).1 (sineR d).2 (cosR d).1 (cosR d).2 false = some true := by
  simp only [laws_FnAngles.j0, Bool.false_eq_true, if_false, specCosOf_eq, Option.bind_some, if_true, bne_self_eq_false]
  have e : (cosR d).2 = (sineR d).2 := by unfold cosR sineR; split <;> rfl
  rw [e, bne_self_eq_false, j1_ok hw k d hb]
end
theorem FnAngles : Asked := by
  intro l hl hw
  refine ⟨9, ?_⟩
  unfold laws_FnAngles.f laws_vBig.f
  simp only [Option.bind_some]
  by_cases c : (l.length : Int) > 65536
  · simp [c]
  · obtain ⟨d, e, hd⟩ := drawSine_ok hw
    simp only [decide_eq_true_eq, if_neg c, e, Option.bind_some, implSineOf_eq, implCosOf_eq, specSineOf_eq, if_true, bne_self_eq_false, j0_ok hw 0 d hd]
end Go.Proofs.YtphbgedmdohlnaaDoor.Pure
