/- The pure statement of the law of DeepestStation: true for every list of legs; no condition but the slice's reach. -/
import Derived.Test.YtjcmolbaanedaaaDoorAskFnExactDeepestStation
namespace Go.Proofs.YtjcmolbaanedaaaDoor.Pure
open Go.RowKit Go.Proofs.YtjcmolbaanedaaaDoor.XFnExactDeepestStation Go.Proofs.YtjcmolbaanedaaaDoor.AskFnExactDeepestStation Go.Proofs.YtjcmolbaanedaaaDoorW.PrintWords Go.Proofs.YtjcmolbaanedaaaDoorW.PrintLast
set_option linter.unusedVariables false
set_option linter.unusedSimpArgs false

theorem l1In_eq (a b c : Int) : spec_l1In.f a b c = some (decide (b ≤ a ∧ a ≤ c)) := by
  unfold spec_l1In.f
  by_cases h : a ≥ b
  · rw [if_pos h]
    have h' : b ≤ a := h
    simp [h']
  · rw [if_neg h]
    have h' : ¬ b ≤ a := h
    simp [h']

theorem beqd (a b : Int) : (a == b) = decide (a = b) := by by_cases h : a = b <;> simp [h]

def vLeg (f t tp c s : Int) : Bool := decide ((0 ≤ f ∧ f ≤ 7) ∧ (0 ≤ t ∧ t ≤ 7) ∧ f ≠ t ∧ (1 ≤ tp ∧ tp ≤ 500) ∧ (0 ≤ c ∧ c ≤ 359) ∧ (-90 ≤ s ∧ s ≤ 90))

theorem l4Leg_eq (f t tp c s : Int) : spec_l4Leg.f f t tp c s = some (vLeg f t tp c s) := by
  unfold spec_l4Leg.f spec_l4Station.f spec_l2Bearing.f vLeg
  simp only [l1In_eq, Option.bind_some, decide_eq_true_eq]
  repeat' split
  all_goals first | exact congrArg some (decide_eq_decide.mpr (by omega)) | exact congrArg some (decide_eq_false (by omega)).symm

theorem within_eq (a b c : Int) : impl_within.f a b c = some (decide (b ≤ a ∧ a ≤ c)) := by
  unfold impl_within.f
  by_cases h : a ≥ b
  · rw [if_pos h]
    have h' : b ≤ a := h
    simp [h']
  · rw [if_neg h]
    have h' : ¬ b ≤ a := h
    simp [h']

theorem isLeg_eq (f t tp c s : Int) : impl_IsLeg.f f t tp c s = some (vLeg f t tp c s) := by
  unfold impl_IsLeg.f impl_isStation.f impl_isBearing.f vLeg
  simp only [within_eq, Option.bind_some, decide_eq_true_eq]
  repeat' split
  all_goals first | exact congrArg some (decide_eq_decide.mpr (by omega)) | exact congrArg some (decide_eq_false (by omega)).symm

theorem w64 {x : Int} (h0 : -9223372036854775808 ≤ x) (h1 : x ≤ 9223372036854775807) : wrap64 x = x := by
  unfold wrap64
  omega

def vL (x : S28) : Bool := vLeg x.f0 x.f1 x.f2 x.f3 x.f4
theorem legs_loops (l : List S28) (hl : l.length ≤ 140737488351232) : ∀ (xs : List S28) (k n : Nat), l.drop n = xs → xs.length < k →
    spec_l4Legs.l0 k l (n : Int) = some (xs.all vL && decide (l.length ≤ 12)) ∧ impl_areLegs.l0 k l l (l.length : Int) (n : Int) = some (xs.all vL && decide (l.length ≤ 12))
  | [], k, n, hx, hk => by
    obtain ⟨k, rfl⟩ : ∃ m, k = m + 1 := ⟨k - 1, by omega⟩
    have hn : l.length ≤ n := List.drop_eq_nil_iff.mp hx
    simp only [spec_l4Legs.l0, impl_areLegs.l0]
    rw [if_neg (by omega), if_neg (by omega)]
    have e : decide ((l.length : Int) ≤ 12) = decide (l.length ≤ 12) := decide_eq_decide.mpr (by omega)
    simp [e]
  | x :: xs, k, n, hx, hk => by
    obtain ⟨k, rfl⟩ : ∃ m, k = m + 1 := ⟨k - 1, by omega⟩
    have hn : n < l.length := by
      have := congrArg List.length hx
      simp at this
      omega
    have hd := List.drop_eq_getElem_cons hn
    rw [hx] at hd
    obtain ⟨h1, h2⟩ := List.cons.inj hd
    have ew : wrap64 ((n : Int) + 1) = ((n + 1 : Nat) : Int) := (w64 (by omega) (by omega)).trans (by omega)
    have er : rd_T28 l (n : Int) = x := by simp [rd_T28, hn, h1]
    have c1 : (n : Int) < (l.length : Int) := by omega
    have c2 : 0 ≤ (n : Int) := by omega
    have hk' : xs.length < k := by simp at hk; omega
    obtain ⟨i1, i2⟩ := legs_loops l hl xs k (n + 1) h2.symm hk'
    simp only [spec_l4Legs.l0, impl_areLegs.l0, if_pos c1, if_pos c2, er, ew, l4Leg_eq, isLeg_eq, Option.bind_some, List.all_cons]
    have ev : vLeg x.f0 x.f1 x.f2 x.f3 x.f4 = vL x := rfl
    rw [ev]
    cases vL x with
    | false => simp
    | true => simpa using ⟨i1, i2⟩
/-- Are the legs valid? -/
def vLs (l : List S28) : Bool := l.all vL && decide (l.length ≤ 12)
theorem specLegs_eq (l : List S28) (hl : l.length ≤ 140737488351232) {k : Nat} (hk : l.length < k) : spec_l4Legs.f k l = some (vLs l) := (legs_loops l hl l k 0 rfl hk).1
theorem implLegs_eq (l : List S28) (hl : l.length ≤ 140737488351232) {k : Nat} (hk : l.length < k) : impl_areLegs.f k l = some (vLs l) := (legs_loops l hl l k 0 rfl hk).2

theorem td {x y : Int} (h : 0 ≤ x) : Int.tdiv x y = x / y := Int.tdiv_eq_ediv_of_nonneg h
theorem tm {x y : Int} (h : 0 ≤ x) : Int.tmod x y = x % y := Int.tmod_eq_emod_of_nonneg h

/-- An entry of the table. -/
def T_ (i : Int) : Int := sineTab.getD i.toNat 0
/-- The sine of any angle. -/
def sn (d : Int) : Int := if d % 360 ≤ 90 then T_ (d % 360) else if d % 360 ≤ 180 then T_ (180 - d % 360) else if d % 360 ≤ 270 then -T_ (d % 360 - 180) else -T_ (360 - d % 360)
theorem T_bound (i : Int) : 0 ≤ T_ i ∧ T_ i ≤ 1000 := by
  have h : ∀ x ∈ sineTab, 0 ≤ x ∧ x ≤ 1000 := by decide
  unfold T_
  rw [List.getD_eq_getElem?_getD]
  cases e : sineTab[i.toNat]? with
  | none => simp
  | some x => exact h x (List.mem_of_getElem? e)
theorem sn_bound (d : Int) : -1000 ≤ sn d ∧ sn d ≤ 1000 := by
  unfold sn
  have h1 := T_bound (d % 360)
  have h2 := T_bound (180 - d % 360)
  have h3 := T_bound (d % 360 - 180)
  have h4 := T_bound (360 - d % 360)
  split
  · omega
  · split
    · omega
    · split <;> omega
theorem md_eq (x : Int) : Int.tmod (wrap64 (Int.tmod x 360 + 360)) 360 = x % 360 := by
  by_cases h : 0 ≤ x
  · have e0 : Int.tmod x 360 = x % 360 := tm h
    have e1 : wrap64 (x % 360 + 360) = x % 360 + 360 := w64 (by omega) (by omega)
    rw [e0, e1, tm (x := x % 360 + 360) (by omega)]
    omega
  · have e0 : Int.tmod x 360 = -(-x % 360) := by
      have h := Int.neg_tmod (-x) 360
      rw [Int.neg_neg, tm (x := -x) (by omega)] at h
      exact h
    have e1 : wrap64 (-(-x % 360) + 360) = -(-x % 360) + 360 := w64 (by omega) (by omega)
    rw [e0, e1, tm (x := -(-x % 360) + 360) (by omega)]
    omega
theorem table_at {i : Int} (h0 : 0 ≤ i) (h1 : i < 91) : (spec_l2Table.f).bind (fun t => if 0 ≤ i then (if i < (t.length : Int) then some (rd t i) else none) else none) = some (T_ i) := by
  unfold spec_l2Table.f
  simp only [Option.bind_some]
  rw [if_pos h0, if_pos (by simpa using h1)]
  rfl
theorem table_neg {i : Int} (h0 : 0 ≤ i) (h1 : i < 91) : (spec_l2Table.f).bind (fun t => if 0 ≤ i then (if i < (t.length : Int) then some (wrap64 (-(rd t i))) else none) else none) = some (-T_ i) := by
  have hb := T_bound i
  unfold spec_l2Table.f
  simp only [Option.bind_some]
  rw [if_pos h0, if_pos (by simpa using h1)]
  exact congrArg some (w64 (x := -T_ i) (by omega) (by omega))
theorem specSine_eq (d : Int) : spec_l2Sine.f d = some (sn d) := by
  unfold spec_l2Sine.f sn
  rw [md_eq]
  have h0 : 0 ≤ d % 360 := by omega
  have h1 : d % 360 < 360 := by omega
  generalize d % 360 = m at *
  have e1 : wrap64 (180 - m) = 180 - m := w64 (by omega) (by omega)
  have e2 : wrap64 (m - 180) = m - 180 := w64 (by omega) (by omega)
  have e3 : wrap64 (360 - m) = 360 - m := w64 (by omega) (by omega)
  rw [e1, e2, e3]
  by_cases c1 : m ≤ 90
  · rw [if_pos c1, if_pos c1]; exact table_at h0 (by omega)
  · rw [if_neg c1, if_neg c1]
    by_cases c2 : m ≤ 180
    · rw [if_pos c2, if_pos c2]; exact table_at (by omega) (by omega)
    · rw [if_neg c2, if_neg c2]
      by_cases c3 : m ≤ 270
      · rw [if_pos c3, if_pos c3]; exact table_neg (by omega) (by omega)
      · rw [if_neg c3, if_neg c3]; exact table_neg (by omega) (by omega)
theorem implSine_eq (d : Int) : impl_sine.f d = some (sn d) := by
  unfold impl_sine.f impl_modulo.f sn
  rw [if_neg (by omega), md_eq]
  simp only [Option.bind_some]
  have h0 : 0 ≤ d % 360 := by omega
  have h1 : d % 360 < 360 := by omega
  generalize d % 360 = m at *
  have b1 := T_bound (m - 180)
  have b2 := T_bound (360 - m)
  rw [if_pos ⟨h0, h1⟩]
  by_cases c1 : m ≤ 90
  · rw [if_pos (by omega), if_pos c1]; unfold sineLow; rw [if_pos c1]; rfl
  · rw [if_neg c1]
    by_cases c2 : m ≤ 180
    · rw [if_pos c2, if_pos c2]; unfold sineLow; rw [if_neg c1]; rfl
    · rw [if_neg c2, if_neg c2]
      by_cases c3 : m ≤ 270
      · have e : sineLow (m - 180) = T_ (m - 180) := by unfold sineLow; rw [if_pos (by omega)]; rfl
        rw [if_pos c3, e, w64 (x := -T_ (m - 180)) (by omega) (by omega)]
      · have e : sineLow (m - 180) = T_ (360 - m) := by unfold sineLow; rw [if_neg (by omega), show 180 - (m - 180) = 360 - m by omega]; rfl
        rw [if_neg c3, e, w64 (x := -T_ (360 - m)) (by omega) (by omega)]

theorem specCos_eq {d : Int} (h0 : -1000000 ≤ d) (h1 : d ≤ 1000000) : spec_l2Cosine.f d = some (sn (d + 90)) := by
  unfold spec_l2Cosine.f
  rw [w64 (x := d + 90) (by omega) (by omega), specSine_eq]
  rfl
theorem implCos_eq {d : Int} (h0 : -1000000 ≤ d) (h1 : d ≤ 1000000) : impl_cosine.f d = some (sn (d + 90)) := by
  unfold impl_cosine.f
  rw [w64 (x := d + 90) (by omega) (by omega), implSine_eq]
  rfl

/-- a divided by 1000, rounded. -/
def rnd (a : Int) : Int := if a < 0 then -((2 * -a + 1000) / 2000) else (2 * a + 1000) / 2000
theorem rnd_bound {a : Int} (h0 : -2000000000 ≤ a) (h1 : a ≤ 2000000000) : -2000001 ≤ rnd a ∧ rnd a ≤ 2000001 := by
  unfold rnd
  split <;> omega

theorem l2Div_eq {a : Int} (h0 : -2000000000 ≤ a) (h1 : a ≤ 2000000000) : spec_l2Div.f a 1000 = some (rnd a) := by
  unfold spec_l2Div.f rnd
  have e0 : wrap64 (2 * 1000) = 2000 := w64 (by omega) (by omega)
  rw [e0]
  by_cases hn : a < 0
  · have e1 : wrap64 (-2 * a) = 2 * -a := (w64 (by omega) (by omega)).trans (by omega)
    have e2 : wrap64 (2 * -a + 1000) = 2 * -a + 1000 := w64 (by omega) (by omega)
    have e3 : Int.tdiv (2 * -a + 1000) 2000 = (2 * -a + 1000) / 2000 := td (by omega)
    have e4 : wrap64 ((2 * -a + 1000) / 2000) = (2 * -a + 1000) / 2000 := w64 (by omega) (by omega)
    have e5 : wrap64 (-((2 * -a + 1000) / 2000)) = -((2 * -a + 1000) / 2000) := w64 (by omega) (by omega)
    rw [if_pos hn, if_neg (by omega), e1, e2, e3, e4, e5, if_pos hn]
  · have e1 : wrap64 (2 * a) = 2 * a := w64 (by omega) (by omega)
    have e2 : wrap64 (2 * a + 1000) = 2 * a + 1000 := w64 (by omega) (by omega)
    have e3 : Int.tdiv (2 * a + 1000) 2000 = (2 * a + 1000) / 2000 := td (by omega)
    have e4 : wrap64 ((2 * a + 1000) / 2000) = (2 * a + 1000) / 2000 := w64 (by omega) (by omega)
    rw [if_neg hn, if_neg (by omega), e1, e2, e3, e4, if_neg hn]

theorem rounded_pos (k : Nat) (a : Int) (h0 : 0 ≤ a) (h1 : a ≤ 2000000000) : impl_rounded.f (k + 1) a 1000 = some ((2 * a + 1000) / 2000) := by
  simp only [impl_rounded.f]
  rw [if_neg (by omega), w64 (x := 2 * 1000) (by omega) (by omega), if_neg (by omega), w64 (x := 2 * a) (by omega) (by omega), w64 (x := 2 * a + 1000) (by omega) (by omega), td (by omega)]
  exact congrArg some (w64 (by omega) (by omega))
theorem rounded_eq (k : Nat) (a : Int) (h0 : -2000000000 ≤ a) (h1 : a ≤ 2000000000) : impl_rounded.f (k + 2) a 1000 = some (rnd a) := by
  unfold rnd
  by_cases hn : a < 0
  · rw [if_pos hn, impl_rounded.f, if_pos hn, w64 (x := -a) (by omega) (by omega), rounded_pos k (-a) (by omega) (by omega)]
    exact congrArg some (w64 (by omega) (by omega))
  · rw [if_neg hn, rounded_pos (k + 1) a (by omega) h1]

theorem prod_bound {x s : Int} (hx : -100000 ≤ x ∧ x ≤ 100000) (hs : -1000 ≤ s ∧ s ≤ 1000) : -100000000 ≤ x * s ∧ x * s ≤ 100000000 := by
  have key : ∀ a b : Int, 0 ≤ a → a ≤ 100000 → -1000 ≤ b → b ≤ 1000 → -100000000 ≤ a * b ∧ a * b ≤ 100000000 := by
    intro a b h0 h1 h2 h3
    have e1 : a * b ≤ a * 1000 := Int.mul_le_mul_of_nonneg_left h3 h0
    have e2 : a * -1000 ≤ a * b := Int.mul_le_mul_of_nonneg_left h2 h0
    omega
  by_cases c : 0 ≤ x
  · exact key x s c hx.2 hs.1 hs.2
  · have := key (-x) s (by omega) (by omega) hs.1 hs.2
    rw [Int.neg_mul] at this
    omega
theorem wprod {x s : Int} (hx : -100000 ≤ x ∧ x ≤ 100000) (hs : -1000 ≤ s ∧ s ≤ 1000) : wrap64 (x * s) = x * s := by
  have := prod_bound hx hs
  exact w64 (by omega) (by omega)

/-- A length times the cosine and the sine, rounded. -/
def partP (x d : Int) : Int × Int := (rnd (x * sn (d + 90)), rnd (x * sn d))
theorem partOf_eq {k : Nat} (hk : 2 ≤ k) {x d : Int} (hx : -100000 ≤ x ∧ x ≤ 100000) (h0 : -1000000 ≤ d) (h1 : d ≤ 1000000) : impl_partOf.f k x d = some (partP x d) := by
  obtain ⟨k, rfl⟩ : ∃ m, k = m + 2 := ⟨k - 2, by omega⟩
  have b1 := prod_bound hx (sn_bound (d + 90))
  have b2 := prod_bound hx (sn_bound d)
  unfold impl_partOf.f
  rw [implCos_eq h0 h1, implSine_eq]
  simp only [Option.bind_some]
  rw [wprod hx (sn_bound (d + 90)), wprod hx (sn_bound d), rounded_eq k _ (by omega) (by omega), rounded_eq k _ (by omega) (by omega)]
  rfl

theorem rnd_bound5 {a : Int} (h0 : -100000000 ≤ a) (h1 : a ≤ 100000000) : -100000 ≤ rnd a ∧ rnd a ≤ 100000 := by
  unfold rnd
  split <;> omega
/-- The shift of a leg. -/
def shiftP (t b s : Int) : Int × Int × Int := (rnd (rnd (t * sn (s + 90)) * sn b), rnd (rnd (t * sn (s + 90)) * sn (b + 90)), rnd (t * sn s))
theorem shift_eqs {f g t b s : Int} {k : Nat} (hk : 2 ≤ k) (h : vLeg f g t b s = true) : spec_l4Shift.f f g t b s = some (shiftP t b s) ∧ impl_Leg_shift.f k f g t b s = some (shiftP t b s) := by
  unfold vLeg at h
  simp only [decide_eq_true_eq] at h
  have ht : -100000 ≤ t ∧ t ≤ 100000 := by omega
  have hb0 : -1000000 ≤ b := by omega
  have hb1 : b ≤ 1000000 := by omega
  have hs0 : -1000000 ≤ s := by omega
  have hs1 : s ≤ 1000000 := by omega
  have p1 := prod_bound ht (sn_bound (s + 90))
  have p2 := prod_bound ht (sn_bound s)
  have hl := rnd_bound5 p1.1 p1.2
  have q1 := prod_bound hl (sn_bound b)
  have q2 := prod_bound hl (sn_bound (b + 90))
  constructor
  · unfold spec_l4Shift.f
    simp only [specCos_eq hs0 hs1, specCos_eq hb0 hb1, specSine_eq, Option.bind_some, wprod ht (sn_bound (s + 90)), wprod ht (sn_bound s),
      l2Div_eq (show -2000000000 ≤ t * sn (s + 90) by omega) (by omega), l2Div_eq (show -2000000000 ≤ t * sn s by omega) (by omega), wprod hl (sn_bound b), wprod hl (sn_bound (b + 90)),
      l2Div_eq (show -2000000000 ≤ rnd (t * sn (s + 90)) * sn b by omega) (by omega), l2Div_eq (show -2000000000 ≤ rnd (t * sn (s + 90)) * sn (b + 90) by omega) (by omega), shiftP]
  · unfold impl_Leg_shift.f
    simp only [partOf_eq hk ht hs0 hs1, partP, Option.bind_some, partOf_eq hk hl hb0 hb1, shiftP]

theorem vL_st {x : S28} (h : vL x = true) : 0 ≤ x.f0 ∧ x.f0 < 8 ∧ 0 ≤ x.f1 ∧ x.f1 < 8 ∧ x.f0 ≠ x.f1 := by
  unfold vL vLeg at h
  simp only [decide_eq_true_eq] at h
  omega
/-- A place with a shift added, t times. -/
def plusP (q : S25) (s : Int × Int × Int) (t : Int) : S25 := ⟨wrap64 (q.f0 + wrap64 (t * s.1)), wrap64 (q.f1 + wrap64 (t * s.2.1)), wrap64 (q.f2 + wrap64 (t * s.2.2))⟩
/-- The state of a network: the stations' marks, their places, the tree's marks, whether something was placed. -/
abbrev Net := List Bool × List S25 × List Bool × Bool
def at0 (Q : List S25) (s : Int) : S25 := Q.getD s.toNat ⟨0, 0, 0⟩
def mk0 (P : List Bool) (s : Int) : Bool := P.getD s.toNat false
def nst (x : S28) (i : Nat) (n : Net) : Net :=
  if mk0 n.1 x.f0 = mk0 n.1 x.f1 then n
  else if mk0 n.1 x.f0 = true then (n.1.set x.f1.toNat true, n.2.1.set x.f1.toNat (plusP (at0 n.2.1 x.f0) (shiftP x.f2 x.f3 x.f4) 1), n.2.2.1.set i true, true)
  else (n.1.set x.f0.toNat true, n.2.1.set x.f0.toNat (plusP (at0 n.2.1 x.f1) (shiftP x.f2 x.f3 x.f4) (-1)), n.2.2.1.set i true, true)
def nrow : List S28 → Nat → Net → Net
  | [], _, n => n
  | x :: xs, i, n => nrow xs (i + 1) (nst x i n)
def nrun (legs : List S28) : Nat → Net → Option Net
  | 0, _ => none
  | m + 1, n => if (nrow legs 0 (n.1, n.2.1, n.2.2.1, false)).2.2.2 = true then nrun legs m (nrow legs 0 (n.1, n.2.1, n.2.2.1, false)) else some (nrow legs 0 (n.1, n.2.1, n.2.2.1, false))
theorem netStep_eq {k : Nat} (hk : 2 ≤ k) {x : S28} (hv : vL x = true) (i : Nat) (P : List Bool) (Q : List S25) (T : List Bool) (again : Bool) : netStep k x i P Q T again = some (nst x i (P, Q, T, again)) := by
  obtain ⟨h0, h1, h2, h3, _⟩ := vL_st hv
  unfold netStep nst
  rw [if_pos ⟨h0, h1, h2, h3⟩]
  show (if mk0 P x.f0 = mk0 P x.f1 then _ else if mk0 P x.f0 = true then _ else _) = _
  by_cases c : mk0 P x.f0 = mk0 P x.f1
  · rw [if_pos c, if_pos c]
  · rw [if_neg c, if_neg c]
    by_cases d : mk0 P x.f0 = true
    · rw [if_pos d, if_pos d, (shift_eqs hk (show vLeg x.f0 x.f1 x.f2 x.f3 x.f4 = true from hv)).2]
      rfl
    · rw [if_neg d, if_neg d, (shift_eqs hk (show vLeg x.f0 x.f1 x.f2 x.f3 x.f4 = true from hv)).2]
      rfl
theorem netRow_eq {k : Nat} (hk : 2 ≤ k) : ∀ (xs : List S28), (∀ x ∈ xs, vL x = true) → ∀ (i : Nat) (P : List Bool) (Q : List S25) (T : List Bool) (again : Bool), netRow k xs i P Q T again = some (nrow xs i (P, Q, T, again))
  | [], _, i, P, Q, T, again => rfl
  | x :: xs, hv, i, P, Q, T, again => by
    simp only [netRow, nrow, netStep_eq hk (hv x (by simp)), Option.bind_some]
    exact netRow_eq hk xs (fun y hy => hv y (by simp [hy])) (i + 1) _ _ _ _
theorem netRun_eq {k : Nat} (hk : 2 ≤ k) (xs : List S28) (hv : ∀ x ∈ xs, vL x = true) : ∀ (m : Nat) (P : List Bool) (Q : List S25) (T : List Bool) (a : Bool), netRun k xs m P Q T = (nrun xs m (P, Q, T, a)).bind fun n => some (n.1, n.2.1, n.2.2.1)
  | 0, _, _, _, _ => rfl
  | m + 1, P, Q, T, a => by
    simp only [netRun, nrun, netRow_eq hk xs hv, Option.bind_some]
    split
    · exact netRun_eq hk xs hv m _ _ _ _
    · rfl
/-- How many stations are not placed. -/
def open0 (P : List Bool) : Nat := P.countP (fun b => !b)
theorem open0_set : ∀ (P : List Bool) (j : Nat), j < P.length → P.getD j false = false → open0 (P.set j true) + 1 = open0 P
  | [], j, h, _ => by simp at h
  | b :: P, 0, _, h => by
    have hb : b = false := by simpa using h
    subst hb
    simp [open0]
  | b :: P, j + 1, h, g => by
    have ih := open0_set P j (by simpa using h) (by simpa using g)
    unfold open0 at *
    simp only [List.set_cons_succ, List.countP_cons]
    omega
/-- What is kept: the lengths; a leg of the tree has both its ends placed. -/
structure NInv (legs : List S28) (n : Net) : Prop where
  p : n.1.length = 8
  q : n.2.1.length = 8
  t : n.2.2.1.length = legs.length
  tr : ∀ (i : Nat) (h : i < legs.length), n.2.2.1.getD i false = true → mk0 n.1 legs[i].f0 = true ∧ mk0 n.1 legs[i].f1 = true
theorem mk0_set {P : List Bool} (s t : Int) (_ : 0 ≤ s) (h : mk0 P s = true) : mk0 (P.set t.toNat true) s = true := by
  unfold mk0 at *
  rw [List.getD_eq_getElem?_getD] at *
  by_cases e : t.toNat = s.toNat
  · rw [e, List.getElem?_set_self']
    cases q : P[s.toNat]? with
    | none => rw [q] at h; simp at h
    | some b => simp
  · rw [List.getElem?_set_ne e]; exact h
theorem mk0_self {P : List Bool} (s : Int) (h : s.toNat < P.length) : mk0 (P.set s.toNat true) s = true := by
  unfold mk0
  rw [List.getD_eq_getElem?_getD, List.getElem?_set_self h]; rfl
theorem getD_set_true {T : List Bool} {i j : Nat} (h : (T.set i true).getD j false = true) : i = j ∨ T.getD j false = true := by
  by_cases e : i = j
  · exact .inl e
  · right
    rw [List.getD_eq_getElem?_getD, List.getElem?_set_ne e, ← List.getD_eq_getElem?_getD] at h
    exact h
theorem nst_inv {legs : List S28} (hv : ∀ x ∈ legs, vL x = true) {n : Net} (hI : NInv legs n) (i : Nat) (hi : i < legs.length) :
    NInv legs (nst legs[i] i n) ∧ ((nst legs[i] i n) = n ∨ ((nst legs[i] i n).2.2.2 = true ∧ open0 (nst legs[i] i n).1 + 1 = open0 n.1)) := by
  have hvx := hv legs[i] (List.getElem_mem hi)
  obtain ⟨h0, h1, h2, h3, h4⟩ := vL_st hvx
  have stt : ∀ (j : Nat) (hj : j < legs.length), 0 ≤ legs[j].f0 ∧ 0 ≤ legs[j].f1 := by
    intro j hj
    have := vL_st (hv legs[j] (List.getElem_mem hj))
    exact ⟨this.1, this.2.2.1⟩
  have p8 := hI.p
  unfold nst
  by_cases c : mk0 n.1 legs[i].f0 = mk0 n.1 legs[i].f1
  · rw [if_pos c]
    exact ⟨hI, .inl rfl⟩
  · rw [if_neg c]
    have key : ∀ (s t : Int) (q : S25), 0 ≤ s → s < 8 → 0 ≤ t → t < 8 → mk0 n.1 s = true → mk0 n.1 t = false → (s = legs[i].f0 ∧ t = legs[i].f1 ∨ t = legs[i].f0 ∧ s = legs[i].f1) →
        NInv legs (n.1.set t.toNat true, n.2.1.set t.toNat q, n.2.2.1.set i true, true) ∧ (((n.1.set t.toNat true, n.2.1.set t.toNat q, n.2.2.1.set i true, true) : Net) = n ∨ ((((n.1.set t.toNat true, n.2.1.set t.toNat q, n.2.2.1.set i true, true) : Net).2.2.2 = true) ∧ open0 (((n.1.set t.toNat true, n.2.1.set t.toNat q, n.2.2.1.set i true, true) : Net).1) + 1 = open0 n.1)) := by
      intro s t q s0 s1 t0 t1 ms mt hst
      refine ⟨⟨by simpa using hI.p, by simpa using hI.q, by simpa using hI.t, ?_⟩, .inr ⟨rfl, open0_set _ _ (by omega) mt⟩⟩
      intro j hj hT
      rcases getD_set_true hT with e | e
      · subst e
        have m1 : mk0 (n.1.set t.toNat true) t = true := mk0_self t (by omega)
        have m2 : mk0 (n.1.set t.toNat true) s = true := mk0_set s t s0 ms
        rcases hst with ⟨a, b⟩ | ⟨a, b⟩
        · exact ⟨by rw [← a]; exact m2, by rw [← b]; exact m1⟩
        · exact ⟨by rw [← a]; exact m1, by rw [← b]; exact m2⟩
      · obtain ⟨a, b⟩ := hI.tr j hj e
        exact ⟨mk0_set _ t (stt j hj).1 a, mk0_set _ t (stt j hj).2 b⟩
    by_cases d : mk0 n.1 legs[i].f0 = true
    · rw [if_pos d]
      have d2 : mk0 n.1 legs[i].f1 = false := by
        cases e : mk0 n.1 legs[i].f1 with
        | false => rfl
        | true => exact absurd (d.trans e.symm) c
      exact key _ _ _ h0 h1 h2 h3 d d2 (.inl ⟨rfl, rfl⟩)
    · rw [if_neg d]
      have d1 : mk0 n.1 legs[i].f0 = false := by simpa using d
      have d2 : mk0 n.1 legs[i].f1 = true := by
        cases e : mk0 n.1 legs[i].f1 with
        | true => rfl
        | false => exact absurd (d1.trans e.symm) c
      exact key _ _ _ h2 h3 h0 h1 d2 d1 (.inr ⟨rfl, rfl⟩)
theorem nrow_inv {legs : List S28} (hv : ∀ x ∈ legs, vL x = true) : ∀ (xs : List S28) (i : Nat) (n : Net), legs.drop i = xs → NInv legs n →
    NInv legs (nrow xs i n) ∧ open0 (nrow xs i n).1 ≤ open0 n.1 ∧ (n.2.2.2 = true → (nrow xs i n).2.2.2 = true) ∧ (n.2.2.2 = false → (nrow xs i n).2.2.2 = true → open0 (nrow xs i n).1 < open0 n.1)
  | [], i, n, _, hI => ⟨hI, Nat.le_refl _, id, fun a b => by rw [show nrow [] i n = n from rfl, a] at b; cases b⟩
  | x :: xs, i, n, hd, hI => by
    have hi : i < legs.length := by
      have := congrArg List.length hd
      simp at this; omega
    have hd2 := List.drop_eq_getElem_cons hi
    rw [hd] at hd2
    obtain ⟨e1, e2⟩ := List.cons.inj hd2
    subst e1
    obtain ⟨a1, a2⟩ := nst_inv hv hI i hi
    obtain ⟨b1, b2, b3, b4⟩ := nrow_inv hv xs (i + 1) (nst legs[i] i n) e2.symm a1
    simp only [nrow]
    refine ⟨b1, ?_, ?_, ?_⟩
    · rcases a2 with a2 | a2
      · rw [a2] at b2 ⊢; exact b2
      · omega
    · intro h
      rcases a2 with a2 | a2
      · exact b3 (by rw [a2]; exact h)
      · exact b3 a2.1
    · intro h g
      rcases a2 with a2 | a2
      · rw [a2] at b4 g ⊢; exact b4 h g
      · omega
theorem nrun_some {legs : List S28} (hv : ∀ x ∈ legs, vL x = true) : ∀ (m : Nat) (n : Net), NInv legs n → open0 n.1 < m → ∃ r, NInv legs r ∧ ∀ j, m ≤ j → nrun legs j n = some r
  | 0, n, _, h => by omega
  | m + 1, n, hI, h => by
    have hI' : NInv legs (n.1, n.2.1, n.2.2.1, false) := ⟨hI.p, hI.q, hI.t, hI.tr⟩
    obtain ⟨b1, b2, b3, b4⟩ := nrow_inv hv legs 0 (n.1, n.2.1, n.2.2.1, false) rfl hI'
    by_cases c : (nrow legs 0 (n.1, n.2.1, n.2.2.1, false)).2.2.2 = true
    · have hlt := b4 rfl c
      obtain ⟨r, hr, hj⟩ := nrun_some hv m _ b1 (by simp only at hlt ⊢; omega)
      refine ⟨r, hr, fun j hjm => ?_⟩
      obtain ⟨j, rfl⟩ : ∃ q, j = q + 1 := ⟨j - 1, by omega⟩
      simp only [nrun]
      rw [if_pos c]
      exact hj j (by omega)
    · refine ⟨_, b1, fun j hjm => ?_⟩
      obtain ⟨j, rfl⟩ : ∃ q, j = q + 1 := ⟨j - 1, by omega⟩
      simp only [nrun]
      rw [if_neg c]
def net0 (n : Nat) : Net := ([true, false, false, false, false, false, false, false], List.replicate 8 ⟨0, 0, 0⟩, List.replicate n false, true)
theorem net0_inv (legs : List S28) : NInv legs (net0 legs.length) := by
  refine ⟨rfl, by simp [net0], by simp [net0], fun i h g => ?_⟩
  have e : (List.replicate legs.length false).getD i false = false := by rw [List.getD_eq_getElem?_getD, List.getElem?_replicate]; split <;> rfl
  rw [show (net0 legs.length).2.2.1.getD i false = false from e] at g
  cases g
theorem net_ex {legs : List S28} (hv : ∀ x ∈ legs, vL x = true) : ∃ r, NInv legs r ∧ ∀ j, 8 ≤ j → nrun legs j (net0 legs.length) = some r := nrun_some hv 8 _ (net0_inv legs) (show open0 [true, false, false, false, false, false, false, false] < 8 by decide)

theorem marked_ge : ∀ (P : List Bool) (i : Nat) (x : Int), x ∈ marked P i → (i : Int) ≤ x
  | [], i, x, h => by simp [marked] at h
  | b :: bs, i, x, h => by
    simp only [marked] at h
    split at h
    · rcases List.mem_cons.mp h with h | h
      · omega
      · have := marked_ge bs (i + 1) x h; omega
    · have := marked_ge bs (i + 1) x h; omega
theorem mem_marked : ∀ (P : List Bool) (i j : Nat), ((i + j : Nat) : Int) ∈ marked P i ↔ P.getD j false = true
  | [], i, j => by simp [marked]
  | b :: bs, i, 0 => by
    simp only [marked]
    by_cases hb : b = true
    · simp [hb]
    · rw [if_neg hb]
      constructor
      · intro h; have := marked_ge bs (i + 1) _ h; omega
      · intro h; exact absurd h hb
  | b :: bs, i, j + 1 => by
    have ih := mem_marked bs (i + 1) j
    have e : ((i + 1 + j : Nat) : Int) = ((i + (j + 1) : Nat) : Int) := by omega
    rw [e] at ih
    simp only [marked]
    have hn : ((i + (j + 1) : Nat) : Int) ≠ (i : Int) := by omega
    split
    · rw [List.mem_cons, ih]
      simp only [List.getD_cons_succ]
      exact ⟨fun h => h.elim (fun h => absurd h hn) id, Or.inr⟩
    · rw [ih]; rfl
theorem putIn_lo : ∀ (l : List Int) (n : Int), (∀ x ∈ l, n < x) → putIn l n = n :: l
  | [], n, _ => rfl
  | x :: xs, n, h => by
    have := h x (List.mem_cons_self ..)
    simp only [putIn]; rw [if_neg (by omega)]
theorem putIn_marked : ∀ (P : List Bool) (i j : Nat), j < P.length → P.getD j false = false → putIn (marked P i) ((i + j : Nat) : Int) = marked (P.set j true) i
  | [], i, j, hj, _ => by simp at hj
  | b :: bs, i, 0, _, h => by
    have hb : ¬ b = true := by intro hb; rw [hb] at h; simp at h
    simp only [marked, List.set_cons_zero]
    rw [if_neg hb, if_pos True.intro]
    exact putIn_lo _ _ (fun x hx => by have := marked_ge bs (i + 1) x hx; omega)
  | b :: bs, i, j + 1, hj, h => by
    have ih := putIn_marked bs (i + 1) j (by simpa using hj) (by simpa using h)
    have e : ((i + 1 + j : Nat) : Int) = ((i + (j + 1) : Nat) : Int) := by omega
    rw [e] at ih
    simp only [marked, List.set_cons_succ]
    split
    · simp only [putIn]
      rw [if_pos (by omega), ih]
    · exact ih
theorem marked_false : ∀ (n i : Nat), marked (List.replicate n false) i = []
  | 0, _ => rfl
  | n + 1, i => by simp only [List.replicate_succ, marked]; rw [if_neg (by simp)]; exact marked_false n (i + 1)
theorem marked_len : ∀ (P : List Bool) (i : Nat), (marked P i).length ≤ P.length
  | [], _ => by simp [marked]
  | b :: bs, i => by
    have := marked_len bs (i + 1)
    simp only [marked]; split <;> simp <;> omega
theorem marked_lt : ∀ (P : List Bool) (i : Nat) (x : Int), x ∈ marked P i → x < (i : Int) + P.length
  | [], i, x, h => by simp [marked] at h
  | b :: bs, i, x, h => by
    simp only [marked] at h
    rw [List.length_cons]
    split at h
    · rcases List.mem_cons.mp h with h | h
      · omega
      · have := marked_lt bs (i + 1) x h; omega
    · have := marked_lt bs (i + 1) x h; omega

theorem has_loop (l : List Int) (n : Int) (hl : l.length ≤ 140737488351232) (d : Nat) : ∀ (k i : Nat), i + d = l.length → d < k → spec_l1Has.l0 k l n (i : Int) = some (decide (n ∈ l.drop i)) := by
  induction d with
  | zero =>
    intro k i hd hk
    obtain ⟨k, rfl⟩ : ∃ m, k = m + 1 := ⟨k - 1, by omega⟩
    simp only [spec_l1Has.l0]
    rw [if_neg (by omega), List.drop_of_length_le (by omega)]
    simp
  | succ d ih =>
    intro k i hd hk
    obtain ⟨k, rfl⟩ : ∃ m, k = m + 1 := ⟨k - 1, by omega⟩
    have ew : wrap64 ((i : Int) + 1) = ((i + 1 : Nat) : Int) := (w64 (by omega) (by omega)).trans (by omega)
    have hi : i < l.length := by omega
    have er : rd l (i : Int) = l[i] := by simp [rd, hi]
    have c1 : (i : Int) < (l.length : Int) := by omega
    have c2 : 0 ≤ (i : Int) := by omega
    have ih := ih k (i + 1) (by omega) (by omega)
    simp only [spec_l1Has.l0, if_pos c1, if_pos c2, er, ew, ih]
    rw [List.drop_eq_getElem_cons hi]
    by_cases e : l[i] = n
    · rw [if_pos e]
      exact congrArg some (decide_eq_true (by rw [e]; exact List.mem_cons_self)).symm
    · rw [if_neg e]
      refine congrArg some (decide_eq_decide.mpr ?_)
      rw [List.mem_cons]
      exact ⟨Or.inr, fun h => h.elim (fun h => absurd h.symm e) id⟩
theorem has_eq (l : List Int) (n : Int) (hl : l.length ≤ 140737488351232) {k : Nat} (hk : l.length < k) : spec_l1Has.f k l n = some (decide (n ∈ l)) := has_loop l n hl l.length k 0 (by omega) hk
theorem mem_mk0 (P : List Bool) (s : Int) (h : 0 ≤ s) : decide (s ∈ marked P 0) = mk0 P s := by
  have e := mem_marked P 0 s.toNat
  rw [show ((0 + s.toNat : Nat) : Int) = s by omega] at e
  rw [Bool.eq_iff_iff, decide_eq_true_eq, e]
  rfl
theorem has_mk (P : List Bool) (hP : P.length = 8) (s : Int) (h : 0 ≤ s) {k : Nat} (hk : 8 < k) : spec_l1Has.f k (marked P 0) s = some (mk0 P s) := by
  have hl := marked_len P 0
  rw [has_eq _ _ (by omega) (by omega), mem_mk0 P s h]
theorem put_mk (P : List Bool) (hP : P.length ≤ 1000) (s : Int) (h : 0 ≤ s) (h8 : s.toNat < P.length) (hm : P.getD s.toNat false = false) : spec_l1Put.f (marked P 0) s = some (marked (P.set s.toNat true) 0) := by
  have hl := marked_len P 0
  have e := mem_marked P 0 s.toNat
  rw [show ((0 + s.toNat : Nat) : Int) = s by omega, hm] at e
  have e2 := putIn_marked P 0 s.toNat h8 hm
  rw [show ((0 + s.toNat : Nat) : Int) = s by omega] at e2
  unfold spec_l1Put.f
  rw [if_pos ⟨by omega, fun z => by have := e.mp z; cases this⟩, e2]
theorem rd25 (Q : List S25) (s : Int) : rd_T25 Q s = at0 Q s := rfl
theorem set25 (Q : List S25) (s : Int) (q : S25) : Q.set s.toNat ⟨q.f0, q.f1, q.f2⟩ = Q.set s.toNat q := rfl
/-- One round of the reference. -/
theorem l6_row (legs : List S28) (hl : legs.length ≤ 12) (hv : ∀ x ∈ legs, vL x = true) (R : List S25 × List Int × List Int) (K : Nat) (hK : 20 ≤ K) : ∀ (xs : List S28) (i : Nat) (n : Net), legs.drop i = xs → NInv legs n →
    (∀ k, K ≤ k → spec_l6Place.l0 k legs (nrow xs i n).2.1 (marked (nrow xs i n).1 0) (marked (nrow xs i n).2.2.1 0) (nrow xs i n).2.2.2 = some R) →
    ∀ k, K + 3 * xs.length + 1 ≤ k → spec_l6Place.l1 k legs n.2.1 (marked n.1 0) (marked n.2.2.1 0) n.2.2.2 (i : Int) = some R
  | [], i, n, hd, hI, h, k, hk => by
    obtain ⟨k, rfl⟩ : ∃ m, k = m + 1 := ⟨k - 1, by omega⟩
    have hi : legs.length ≤ i := List.drop_eq_nil_iff.mp hd
    simp only [spec_l6Place.l1]
    rw [if_neg (by omega)]
    exact h k (by simp only [List.length_nil] at hk; omega)
  | x :: xs, i, n, hd, hI, h, k, hk => by
    have hi : i < legs.length := by
      have := congrArg List.length hd
      simp at this; omega
    have hd2 := List.drop_eq_getElem_cons hi
    rw [hd] at hd2
    obtain ⟨e1, e2⟩ := List.cons.inj hd2
    subst e1
    have hvx := hv legs[i] (List.getElem_mem hi)
    obtain ⟨h0, h1, h2, h3, h4⟩ := vL_st hvx
    obtain ⟨a1, a2⟩ := nst_inv hv hI i hi
    rw [List.length_cons] at hk
    have ih := l6_row legs hl hv R K hK xs (i + 1) (nst legs[i] i n) e2.symm a1 h
    obtain ⟨k, rfl⟩ : ∃ m, k = m + 3 := ⟨k - 3, by omega⟩
    have ew : wrap64 ((i : Int) + 1) = ((i + 1 : Nat) : Int) := (w64 (by omega) (by omega)).trans (by omega)
    have er : rd_T28 legs (i : Int) = legs[i] := by simp [rd_T28, hi]
    have c1 : (i : Int) < (legs.length : Int) := by omega
    have c2 : 0 ≤ (i : Int) := by omega
    have p8 := hI.p
    have q8 := hI.q
    have t8 := hI.t
    have hs := (shift_eqs (k := 2) (Nat.le_refl _) (show vLeg legs[i].f0 legs[i].f1 legs[i].f2 legs[i].f3 legs[i].f4 = true from hvx)).1
    have hTn : ∀ b, mk0 n.1 legs[i].f0 = b → mk0 n.1 legs[i].f1 = !b → n.2.2.1.getD i false = false := by
      intro b x y
      cases e : n.2.2.1.getD i false with
      | false => rfl
      | true =>
        have := hI.tr i hi e
        rw [x, y] at this
        cases b <;> simp at this
    have putT : n.2.2.1.getD i false = false → spec_l1Put.f (marked n.2.2.1 0) (i : Int) = some (marked (n.2.2.1.set i true) 0) := by
      intro z
      have := put_mk n.2.2.1 (by omega) (i : Int) c2 (by omega) (by simpa using z)
      simpa using this
    have i0 : legs[i].f0 < (n.2.1.length : Int) := by omega
    have i1 : legs[i].f1 < (n.2.1.length : Int) := by omega
    have ihA := ih k (by omega)
    have ihB := ih (k + 1) (by omega)
    unfold nst at ihA ihB
    rw [spec_l6Place.l1, if_pos c1, if_pos c2, er, has_mk _ p8 _ h0 (by omega)]
    simp only [Option.bind_some]
    cases m0 : mk0 n.1 legs[i].f0 with
    | true =>
      rw [if_pos rfl, has_mk _ p8 _ h2 (by omega)]
      simp only [Option.bind_some]
      cases m1 : mk0 n.1 legs[i].f1 with
      | true =>
        rw [m0, m1, if_pos rfl] at ihA
        simp only [spec_l6Place.j2, Bool.not_true, Bool.false_eq_true, if_false, has_mk _ p8 _ h2 (show 8 < k + 1 by omega), Option.bind_some, m1, if_true, has_mk _ p8 _ h0 (show 8 < k + 1 by omega), m0, spec_l6Place.j3, ew]
        exact ihA
      | false =>
        rw [m0, m1, if_neg (by simp), if_pos rfl] at ihB
        simp only [spec_l6Place.j2, Bool.not_false, if_true, if_pos h0, if_pos i0, if_pos c2, if_pos c1, er, hs, Option.bind_some, spec_l4Plus.f, if_pos h2, if_pos i1, put_mk n.1 (by omega) _ h2 (by omega) m1, putT (hTn true m0 m1), ew]
        exact ihB
    | false =>
      rw [if_neg (by simp)]
      simp only [spec_l6Place.j2, Bool.false_eq_true, if_false, has_mk _ p8 _ h2 (show 8 < k + 1 by omega), Option.bind_some]
      cases m1 : mk0 n.1 legs[i].f1 with
      | true =>
        rw [m0, m1, if_neg (by simp), if_neg (by simp)] at ihA
        simp only [if_true, has_mk _ p8 _ h0 (show 8 < k + 1 by omega), m0, Option.bind_some, spec_l6Place.j3, Bool.not_false, if_pos h2, if_pos i1, if_pos c2, if_pos c1, er, hs, spec_l4Plus.f, if_pos h0, if_pos i0, put_mk n.1 (by omega) _ h0 (by omega) m0, putT (hTn false m0 m1), ew]
        exact ihA
      | false =>
        rw [m0, m1, if_pos rfl] at ihA
        simp only [Bool.false_eq_true, if_false, spec_l6Place.j3, ew]
        exact ihA
theorem l6_rounds (legs : List S28) (hl : legs.length ≤ 12) (hv : ∀ x ∈ legs, vL x = true) (r : Net) : ∀ (m : Nat) (n : Net), NInv legs n → nrun legs m n = some r → ∀ k, m * 50 + 20 ≤ k → spec_l6Place.l0 k legs n.2.1 (marked n.1 0) (marked n.2.2.1 0) true = some (r.2.1, marked r.1 0, marked r.2.2.1 0)
  | 0, n, _, h, _, _ => by cases h
  | m + 1, n, hI, h, k, hk => by
    obtain ⟨k, rfl⟩ : ∃ q, k = q + 1 := ⟨k - 1, by omega⟩
    have hI' : NInv legs (n.1, n.2.1, n.2.2.1, false) := ⟨hI.p, hI.q, hI.t, hI.tr⟩
    obtain ⟨b1, _, _, _⟩ := nrow_inv hv legs 0 (n.1, n.2.1, n.2.2.1, false) rfl hI'
    simp only [spec_l6Place.l0, if_true]
    have key : ∀ j, m * 50 + 20 ≤ j → spec_l6Place.l0 j legs (nrow legs 0 (n.1, n.2.1, n.2.2.1, false)).2.1 (marked (nrow legs 0 (n.1, n.2.1, n.2.2.1, false)).1 0) (marked (nrow legs 0 (n.1, n.2.1, n.2.2.1, false)).2.2.1 0) (nrow legs 0 (n.1, n.2.1, n.2.2.1, false)).2.2.2 = some (r.2.1, marked r.1 0, marked r.2.2.1 0) := by
      intro j hj
      simp only [nrun] at h
      cases e : (nrow legs 0 (n.1, n.2.1, n.2.2.1, false)).2.2.2 with
      | true =>
        rw [e, if_pos rfl] at h
        exact l6_rounds legs hl hv r m _ b1 h j hj
      | false =>
        rw [e, if_neg (by simp)] at h
        injection h with h
        subst h
        obtain ⟨j, rfl⟩ : ∃ q, j = q + 1 := ⟨j - 1, by omega⟩
        simp [spec_l6Place.l0]
    exact l6_row legs hl hv _ (m * 50 + 20) (by omega) legs 0 (n.1, n.2.1, n.2.2.1, false) rfl hI' key k (by omega)
/-- What both find: the network of valid legs. -/
theorem nets_eq (legs : List S28) (h : vLs legs = true) : ∃ r : Net, NInv legs r ∧ (∀ k, 500 ≤ k → spec_l6Place.f k legs = some (r.2.1, marked r.1 0, marked r.2.2.1 0)) ∧ (∀ k, 8 ≤ k → impl_place.f k legs = some (r.1, r.2.1, r.2.2.1, netClosing r.1 r.2.2.1 legs 0)) := by
  unfold vLs at h
  simp only [Bool.and_eq_true, List.all_eq_true, decide_eq_true_eq] at h
  obtain ⟨hv, hl⟩ := h
  obtain ⟨r, hr, hj⟩ := net_ex hv
  refine ⟨r, hr, fun k hk => ?_, fun k hk => ?_⟩
  · have e := l6_rounds legs hl hv r 8 _ (net0_inv legs) (hj 8 (Nat.le_refl _)) k (by omega)
    have em : marked (net0 legs.length).2.2.1 0 = [] := marked_false _ _
    rw [em] at e
    unfold spec_l6Place.f
    rw [if_pos (by omega)]
    exact e
  · unfold impl_place.f
    have e := netRun_eq (k := k) (by omega) legs hv k (net0 legs.length).1 (net0 legs.length).2.1 (net0 legs.length).2.2.1 true
    have e0 : nrun legs k (net0 legs.length) = some r := hj k hk
    rw [show ((net0 legs.length).1, (net0 legs.length).2.1, (net0 legs.length).2.2.1, true) = net0 legs.length from rfl, e0] at e
    rw [if_pos hl]
    show (netRun k legs k (net0 legs.length).1 (net0 legs.length).2.1 (net0 legs.length).2.2.1).bind _ = _
    rw [e]
    rfl

theorem set_step {α : Type} (m : List α) (z : α) (i n : Nat) (hm : m.length = n) (hi : i < n) :
    (m.take i ++ (List.replicate n z).drop i).set i (m[i]'(by omega)) = m.take (i + 1) ++ (List.replicate n z).drop (i + 1) := by
  have e1 : (List.replicate n z).drop i = z :: (List.replicate n z).drop (i + 1) := by
    rw [List.drop_eq_getElem_cons (by simpa using hi)]
    simp
  have e2 : (m.take i).length = i := by simp; omega
  rw [List.set_append_right _ _ (by omega), e2, Nat.sub_self, e1, List.set_cons_zero, List.take_succ_eq_append_getElem (by omega), List.append_assoc]
  rfl

/-- The conversion of a struct, field by field. -/
def cv23 (x : S23) : S28 := ⟨x.f0, x.f1, x.f2, x.f3, x.f4⟩
theorem laws_toLegS_loop (l : List S23) (hl : l.length ≤ 140737488351232) (d : Nat) : ∀ (k i : Nat), i + d = l.length → d < k →
    laws_toLegS.l0 k l ((l.map cv23).take i ++ (List.replicate l.length z28).drop i) (i : Int) = some (l.map cv23) := by
  induction d with
  | zero =>
    intro k i hd hk
    obtain ⟨k, rfl⟩ : ∃ m, k = m + 1 := ⟨k - 1, by omega⟩
    simp only [laws_toLegS.l0]
    rw [if_neg (by omega)]
    have e : i = l.length := by omega
    subst e
    rw [List.take_of_length_le (by simp), List.drop_of_length_le (by simp), List.append_nil]
  | succ d ih =>
    intro k i hd hk
    obtain ⟨k, rfl⟩ : ∃ m, k = m + 1 := ⟨k - 1, by omega⟩
    have hi : i < l.length := by omega
    have hlen : ((l.map cv23).take i ++ (List.replicate l.length z28).drop i).length = l.length := by simp; omega
    have ew : wrap64 ((i : Int) + 1) = ((i + 1 : Nat) : Int) := (w64 (by omega) (by omega)).trans (by omega)
    have er : rd_T23 l (i : Int) = l[i] := by simp [rd_T23, hi]
    simp only [laws_toLegS.l0, laws_toLeg.f, Option.bind_some]
    rw [if_pos (by omega), if_pos (by omega), if_pos (by rw [hlen]; omega), ew, er]
    have es : (((l.map cv23).take i ++ (List.replicate l.length z28).drop i).set (i : Int).toNat (cv23 l[i])) = (l.map cv23).take (i + 1) ++ (List.replicate l.length z28).drop (i + 1) := by
      have := set_step (l.map cv23) z28 i l.length (by simp) hi
      simpa using this
    have h := ih k (i + 1) (by omega) (by omega)
    rw [← es] at h
    exact h
theorem laws_toLegS_eq (l : List S23) (hl : l.length ≤ 2097152) {k : Nat} (hk : l.length < k) : laws_toLegS.f k l = some (l.map cv23) := by
  unfold laws_toLegS.f
  rw [if_pos (by omega), if_pos (by rw [Int.toNat_natCast]; omega)]
  have h := laws_toLegS_loop l (by omega) l.length k 0 (by omega) hk
  simpa using h

theorem laws_eqLeg_same (x : S28) : laws_eqLeg.f x.f0 x.f1 x.f2 x.f3 x.f4 x.f0 x.f1 x.f2 x.f3 x.f4 = some true := by unfold laws_eqLeg.f; simp
theorem laws_eqLegS_loop (l : List S28) (hl : l.length ≤ 140737488351232) (d : Nat) : ∀ (k i : Nat), i + d = l.length → d < k → laws_eqLegS.l0 k l l (i : Int) = some true := by
  induction d with
  | zero =>
    intro k i hd hk
    obtain ⟨k, rfl⟩ : ∃ m, k = m + 1 := ⟨k - 1, by omega⟩
    simp only [laws_eqLegS.l0]
    rw [if_neg (by omega)]
  | succ d ih =>
    intro k i hd hk
    obtain ⟨k, rfl⟩ : ∃ m, k = m + 1 := ⟨k - 1, by omega⟩
    have ew : wrap64 ((i : Int) + 1) = ((i + 1 : Nat) : Int) := (w64 (by omega) (by omega)).trans (by omega)
    simp only [laws_eqLegS.l0, laws_eqLeg_same, Option.bind_some, if_true]
    rw [if_pos (by omega), if_pos (by omega), if_pos (by omega), ew]
    exact ih k (i + 1) (by omega) (by omega)
theorem laws_eqLegS_eq (l : List S28) (hl : l.length ≤ 140737488351232) {k : Nat} (hk : l.length < k) : laws_eqLegS.f k l l = some true := by
  unfold laws_eqLegS.f
  rw [if_pos rfl]
  exact laws_eqLegS_loop l hl l.length k 0 (by omega) hk

theorem deep_loop (Q : List S25) (p : List Int) (hp : ∀ s ∈ p, 0 ≤ s ∧ s < (Q.length : Int)) (hl : p.length ≤ 1000) : ∀ (xs : List Int) (j k : Nat) (b : Int), p.drop j = xs → xs.length < k → 0 ≤ b → b < (Q.length : Int) →
    spec_DeepestStation.l0 k Q p b (j : Int) = some (netDeep Q xs b, true)
  | [], j, k, b, hd, hk, _, _ => by
    obtain ⟨k, rfl⟩ : ∃ m, k = m + 1 := ⟨k - 1, by omega⟩
    have hj : p.length ≤ j := List.drop_eq_nil_iff.mp hd
    simp only [spec_DeepestStation.l0, netDeep]
    rw [if_neg (by omega)]
  | s :: xs, j, k, b, hd, hk, b0, b1 => by
    obtain ⟨k, rfl⟩ : ∃ m, k = m + 1 := ⟨k - 1, by omega⟩
    have hj : j < p.length := by
      have := congrArg List.length hd
      simp at this; omega
    have hd2 := List.drop_eq_getElem_cons hj
    rw [hd] at hd2
    obtain ⟨e1, e2⟩ := List.cons.inj hd2
    obtain ⟨s0, s1⟩ := hp s (by rw [e1]; exact List.getElem_mem _)
    rw [List.length_cons] at hk
    have ew : wrap64 ((j : Int) + 1) = ((j + 1 : Nat) : Int) := (w64 (by omega) (by omega)).trans (by omega)
    have er : rd p (j : Int) = s := by simp [rd, hj, e1]
    have c1 : (j : Int) < (p.length : Int) := by omega
    have c2 : 0 ≤ (j : Int) := by omega
    simp only [spec_DeepestStation.l0, if_pos c1, if_pos c2, er, if_pos s0, if_pos s1, if_pos b0, if_pos b1, ew, netDeep]
    by_cases c : (rd_T25 Q s).f2 < (rd_T25 Q b).f2
    · have ih := deep_loop Q p hp hl xs (j + 1) k s e2.symm (by omega) s0 s1
      rw [if_pos c, if_pos (show (Q.getD s.toNat ⟨0, 0, 0⟩).f2 < (Q.getD b.toNat ⟨0, 0, 0⟩).f2 from c)]
      exact ih
    · have ih := deep_loop Q p hp hl xs (j + 1) k b e2.symm (by omega) b0 b1
      rw [if_neg c, if_neg (show ¬ (Q.getD s.toNat ⟨0, 0, 0⟩).f2 < (Q.getD b.toNat ⟨0, 0, 0⟩).f2 from c)]
      exact ih
theorem deep_eq (l : List S28) (hl : l.length ≤ 2097152) : ∃ (r : Int) (b : Bool), ∀ k, l.length + 600 < k → spec_DeepestStation.f k l = some (r, b) ∧ impl_DeepestStation.f k l = some (r, b) := by
  by_cases h : vLs l = true
  · obtain ⟨n, hn, h1, h2⟩ := nets_eq l h
    have hml := marked_len n.1 0
    have p8 := hn.p
    have q8 := hn.q
    have hp : ∀ s ∈ marked n.1 0, 0 ≤ s ∧ s < (n.2.1.length : Int) := by
      intro s hs
      have a := marked_ge n.1 0 s hs
      have b := marked_lt n.1 0 s hs
      omega
    refine ⟨netDeep n.2.1 (marked n.1 0) 0, true, fun k hk => ?_⟩
    have e := deep_loop n.2.1 (marked n.1 0) hp (by omega) (marked n.1 0) 0 k 0 rfl (by omega) (by omega) (by omega)
    unfold spec_DeepestStation.f impl_DeepestStation.f
    rw [specLegs_eq l (by omega) (by omega), implLegs_eq l (by omega) (by omega), h]
    simp only [Option.bind_some, if_true, h1 k (by omega), h2 k (by omega)]
    first | exact ⟨e, rfl⟩ | exact ⟨e, trivial⟩
  · refine ⟨0, false, fun k hk => ?_⟩
    unfold spec_DeepestStation.f impl_DeepestStation.f
    rw [specLegs_eq l (by omega) (by omega), implLegs_eq l (by omega) (by omega)]
    simp only [Option.bind_some, if_neg h, Bool.false_eq_true, if_false]
    first | exact ⟨trivial, trivial⟩ | exact ⟨rfl, rfl⟩ | trivial
theorem FnExactDeepestStation : Asked := by
  intro l hl _
  by_cases hs : wrap64 (1048576 - (l.length : Int)) < 0
  · refine ⟨0, ?_⟩
    unfold laws_FnExactDeepestStation.f laws_szLegS.f
    rw [if_pos hs]
    simp
  · rw [w64 (by omega) (by omega)] at hs
    have ht : ∀ k, l.length < k → laws_toLegS.f k l = some (l.map cv23) := fun k hk => laws_toLegS_eq l (by omega) hk
    have hlen : (l.map cv23).length = l.length := by simp
    obtain ⟨r, b, h⟩ := deep_eq (l.map cv23) (by rw [hlen]; omega)
    rw [hlen] at h
    have heq : laws_eqLegS.f (l.length + 609) (l.map cv23) (l.map cv23) = some true := laws_eqLegS_eq (l.map cv23) (by rw [hlen]; omega) (by rw [hlen]; omega)
    refine ⟨l.length + 610, ?_⟩
    unfold laws_FnExactDeepestStation.f laws_szLegS.f
    rw [w64 (by omega) (by omega), if_neg hs]
    simp only [Option.bind_some]
    rw [if_neg hs, ht _ (by omega)]
    simp only [Option.bind_some, (h (l.length + 610) (by omega)).1, (h (l.length + 610) (by omega)).2, ne_eq, not_true_eq_false, if_false, bne_self_eq_false, laws_FnExactDeepestStation.j0, Bool.false_eq_true, ht _ (show l.length < l.length + 609 by omega), heq, if_true]
    try simp
end Go.Proofs.YtjcmolbaanedaaaDoor.Pure
