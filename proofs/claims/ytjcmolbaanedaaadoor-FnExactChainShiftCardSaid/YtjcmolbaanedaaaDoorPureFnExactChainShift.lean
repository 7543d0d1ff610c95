/- The pure statement of the law of ChainShift: true for every list of legs; no condition but the slice's reach. -/
import Derived.Test.YtjcmolbaanedaaaDoorAskFnExactChainShift
namespace Go.Proofs.YtjcmolbaanedaaaDoor.Pure
open Go.RowKit Go.Proofs.YtjcmolbaanedaaaDoor.XFnExactChainShift Go.Proofs.YtjcmolbaanedaaaDoor.AskFnExactChainShift Go.Proofs.YtjcmolbaanedaaaDoorW.PrintWords Go.Proofs.YtjcmolbaanedaaaDoorW.PrintLast
set_option linter.unusedVariables false
set_option linter.unusedSimpArgs false

theorem l1In_eq (a b c : Int) : spec_l1In.f a b c = some (decide (b ≤ a ∧ a ≤ c)) := by
  unfold spec_l1In.f
  by_cases h : a ≥ b
  · rw [if_pos h]
    have h' : b ≤ a := h
    simp [h']
  · rw [if_neg h]
    have h' : ¬ b ≤ a := h
    simp [h']

theorem within_eq (a b c : Int) : impl_within.f a b c = some (decide (b ≤ a ∧ a ≤ c)) := by
  unfold impl_within.f
  by_cases h : a ≥ b
  · rw [if_pos h]
    have h' : b ≤ a := h
    simp [h']
  · rw [if_neg h]
    have h' : ¬ b ≤ a := h
    simp [h']

theorem w64 {x : Int} (h0 : -9223372036854775808 ≤ x) (h1 : x ≤ 9223372036854775807) : wrap64 x = x := by
  unfold wrap64
  omega

theorem td {x y : Int} (h : 0 ≤ x) : Int.tdiv x y = x / y := Int.tdiv_eq_ediv_of_nonneg h
theorem tm {x y : Int} (h : 0 ≤ x) : Int.tmod x y = x % y := Int.tmod_eq_emod_of_nonneg h

/-- An entry of the table. -/
def T_ (i : Int) : Int := sineTab.getD i.toNat 0
/-- The sine of any angle. -/
def sn (d : Int) : Int := if d % 360 ≤ 90 then T_ (d % 360) else if d % 360 ≤ 180 then T_ (180 - d % 360) else if d % 360 ≤ 270 then -T_ (d % 360 - 180) else -T_ (360 - d % 360)
theorem T_bound (i : Int) : 0 ≤ T_ i ∧ T_ i ≤ 1000 := by
  have h : ∀ x ∈ sineTab, 0 ≤ x ∧ x ≤ 1000 := by decide
  unfold T_
  rw [List.getD_eq_getElem?_getD]
  cases e : sineTab[i.toNat]? with
  | none => simp
  | some x => exact h x (List.mem_of_getElem? e)
theorem sn_bound (d : Int) : -1000 ≤ sn d ∧ sn d ≤ 1000 := by
  unfold sn
  have h1 := T_bound (d % 360)
  have h2 := T_bound (180 - d % 360)
  have h3 := T_bound (d % 360 - 180)
  have h4 := T_bound (360 - d % 360)
  split
  · omega
  · split
    · omega
    · split <;> omega
theorem md_eq (x : Int) : Int.tmod (wrap64 (Int.tmod x 360 + 360)) 360 = x % 360 := by
  by_cases h : 0 ≤ x
  · have e0 : Int.tmod x 360 = x % 360 := tm h
    have e1 : wrap64 (x % 360 + 360) = x % 360 + 360 := w64 (by omega) (by omega)
    rw [e0, e1, tm (x := x % 360 + 360) (by omega)]
    omega
  · have e0 : Int.tmod x 360 = -(-x % 360) := by
      have h := Int.neg_tmod (-x) 360
      rw [Int.neg_neg, tm (x := -x) (by omega)] at h
      exact h
    have e1 : wrap64 (-(-x % 360) + 360) = -(-x % 360) + 360 := w64 (by omega) (by omega)
    rw [e0, e1, tm (x := -(-x % 360) + 360) (by omega)]
    omega
theorem table_at {i : Int} (h0 : 0 ≤ i) (h1 : i < 91) : (spec_l2Table.f).bind (fun t => if 0 ≤ i then (if i < (t.length : Int) then some (rd t i) else none) else none) = some (T_ i) := by
  unfold spec_l2Table.f
  simp only [Option.bind_some]
  rw [if_pos h0, if_pos (by simpa using h1)]
  rfl
theorem table_neg {i : Int} (h0 : 0 ≤ i) (h1 : i < 91) : (spec_l2Table.f).bind (fun t => if 0 ≤ i then (if i < (t.length : Int) then some (wrap64 (-(rd t i))) else none) else none) = some (-T_ i) := by
  have hb := T_bound i
  unfold spec_l2Table.f
  simp only [Option.bind_some]
  rw [if_pos h0, if_pos (by simpa using h1)]
  exact congrArg some (w64 (x := -T_ i) (by omega) (by omega))
theorem specSine_eq (d : Int) : spec_l2Sine.f d = some (sn d) := by
  unfold spec_l2Sine.f sn
  rw [md_eq]
  have h0 : 0 ≤ d % 360 := by omega
  have h1 : d % 360 < 360 := by omega
  generalize d % 360 = m at *
  have e1 : wrap64 (180 - m) = 180 - m := w64 (by omega) (by omega)
  have e2 : wrap64 (m - 180) = m - 180 := w64 (by omega) (by omega)
  have e3 : wrap64 (360 - m) = 360 - m := w64 (by omega) (by omega)
  rw [e1, e2, e3]
  by_cases c1 : m ≤ 90
  · rw [if_pos c1, if_pos c1]; exact table_at h0 (by omega)
  · rw [if_neg c1, if_neg c1]
    by_cases c2 : m ≤ 180
    · rw [if_pos c2, if_pos c2]; exact table_at (by omega) (by omega)
    · rw [if_neg c2, if_neg c2]
      by_cases c3 : m ≤ 270
      · rw [if_pos c3, if_pos c3]; exact table_neg (by omega) (by omega)
      · rw [if_neg c3, if_neg c3]; exact table_neg (by omega) (by omega)
theorem implSine_eq (d : Int) : impl_sine.f d = some (sn d) := by
  unfold impl_sine.f impl_modulo.f sn
  rw [if_neg (by omega), md_eq]
  simp only [Option.bind_some]
  have h0 : 0 ≤ d % 360 := by omega
  have h1 : d % 360 < 360 := by omega
  generalize d % 360 = m at *
  have b1 := T_bound (m - 180)
  have b2 := T_bound (360 - m)
  rw [if_pos ⟨h0, h1⟩]
  by_cases c1 : m ≤ 90
  · rw [if_pos (by omega), if_pos c1]; unfold sineLow; rw [if_pos c1]; rfl
  · rw [if_neg c1]
    by_cases c2 : m ≤ 180
    · rw [if_pos c2, if_pos c2]; unfold sineLow; rw [if_neg c1]; rfl
    · rw [if_neg c2, if_neg c2]
      by_cases c3 : m ≤ 270
      · have e : sineLow (m - 180) = T_ (m - 180) := by unfold sineLow; rw [if_pos (by omega)]; rfl
        rw [if_pos c3, e, w64 (x := -T_ (m - 180)) (by omega) (by omega)]
      · have e : sineLow (m - 180) = T_ (360 - m) := by unfold sineLow; rw [if_neg (by omega), show 180 - (m - 180) = 360 - m by omega]; rfl
        rw [if_neg c3, e, w64 (x := -T_ (360 - m)) (by omega) (by omega)]

theorem specCos_eq {d : Int} (h0 : -1000000 ≤ d) (h1 : d ≤ 1000000) : spec_l2Cosine.f d = some (sn (d + 90)) := by
  unfold spec_l2Cosine.f
  rw [w64 (x := d + 90) (by omega) (by omega), specSine_eq]
  rfl
theorem implCos_eq {d : Int} (h0 : -1000000 ≤ d) (h1 : d ≤ 1000000) : impl_cosine.f d = some (sn (d + 90)) := by
  unfold impl_cosine.f
  rw [w64 (x := d + 90) (by omega) (by omega), implSine_eq]
  rfl

/-- a divided by 1000, rounded. -/
def rnd (a : Int) : Int := if a < 0 then -((2 * -a + 1000) / 2000) else (2 * a + 1000) / 2000
theorem rnd_bound {a : Int} (h0 : -2000000000 ≤ a) (h1 : a ≤ 2000000000) : -2000001 ≤ rnd a ∧ rnd a ≤ 2000001 := by
  unfold rnd
  split <;> omega

theorem l2Div_eq {a : Int} (h0 : -2000000000 ≤ a) (h1 : a ≤ 2000000000) : spec_l2Div.f a 1000 = some (rnd a) := by
  unfold spec_l2Div.f rnd
  have e0 : wrap64 (2 * 1000) = 2000 := w64 (by omega) (by omega)
  rw [e0]
  by_cases hn : a < 0
  · have e1 : wrap64 (-2 * a) = 2 * -a := (w64 (by omega) (by omega)).trans (by omega)
    have e2 : wrap64 (2 * -a + 1000) = 2 * -a + 1000 := w64 (by omega) (by omega)
    have e3 : Int.tdiv (2 * -a + 1000) 2000 = (2 * -a + 1000) / 2000 := td (by omega)
    have e4 : wrap64 ((2 * -a + 1000) / 2000) = (2 * -a + 1000) / 2000 := w64 (by omega) (by omega)
    have e5 : wrap64 (-((2 * -a + 1000) / 2000)) = -((2 * -a + 1000) / 2000) := w64 (by omega) (by omega)
    rw [if_pos hn, if_neg (by omega), e1, e2, e3, e4, e5, if_pos hn]
  · have e1 : wrap64 (2 * a) = 2 * a := w64 (by omega) (by omega)
    have e2 : wrap64 (2 * a + 1000) = 2 * a + 1000 := w64 (by omega) (by omega)
    have e3 : Int.tdiv (2 * a + 1000) 2000 = (2 * a + 1000) / 2000 := td (by omega)
    have e4 : wrap64 ((2 * a + 1000) / 2000) = (2 * a + 1000) / 2000 := w64 (by omega) (by omega)
    rw [if_neg hn, if_neg (by omega), e1, e2, e3, e4, if_neg hn]

theorem rounded_pos (k : Nat) (a : Int) (h0 : 0 ≤ a) (h1 : a ≤ 2000000000) : impl_rounded.f (k + 1) a 1000 = some ((2 * a + 1000) / 2000) := by
  simp only [impl_rounded.f]
  rw [if_neg (by omega), w64 (x := 2 * 1000) (by omega) (by omega), if_neg (by omega), w64 (x := 2 * a) (by omega) (by omega), w64 (x := 2 * a + 1000) (by omega) (by omega), td (by omega)]
  exact congrArg some (w64 (by omega) (by omega))
theorem rounded_eq (k : Nat) (a : Int) (h0 : -2000000000 ≤ a) (h1 : a ≤ 2000000000) : impl_rounded.f (k + 2) a 1000 = some (rnd a) := by
  unfold rnd
  by_cases hn : a < 0
  · rw [if_pos hn, impl_rounded.f, if_pos hn, w64 (x := -a) (by omega) (by omega), rounded_pos k (-a) (by omega) (by omega)]
    exact congrArg some (w64 (by omega) (by omega))
  · rw [if_neg hn, rounded_pos (k + 1) a (by omega) h1]

theorem prod_bound {x s : Int} (hx : -100000 ≤ x ∧ x ≤ 100000) (hs : -1000 ≤ s ∧ s ≤ 1000) : -100000000 ≤ x * s ∧ x * s ≤ 100000000 := by
  have key : ∀ a b : Int, 0 ≤ a → a ≤ 100000 → -1000 ≤ b → b ≤ 1000 → -100000000 ≤ a * b ∧ a * b ≤ 100000000 := by
    intro a b h0 h1 h2 h3
    have e1 : a * b ≤ a * 1000 := Int.mul_le_mul_of_nonneg_left h3 h0
    have e2 : a * -1000 ≤ a * b := Int.mul_le_mul_of_nonneg_left h2 h0
    omega
  by_cases c : 0 ≤ x
  · exact key x s c hx.2 hs.1 hs.2
  · have := key (-x) s (by omega) (by omega) hs.1 hs.2
    rw [Int.neg_mul] at this
    omega
theorem wprod {x s : Int} (hx : -100000 ≤ x ∧ x ≤ 100000) (hs : -1000 ≤ s ∧ s ≤ 1000) : wrap64 (x * s) = x * s := by
  have := prod_bound hx hs
  exact w64 (by omega) (by omega)
/-- A length times the cosine and the sine, rounded. -/
def partP (x d : Int) : Int × Int := (rnd (x * sn (d + 90)), rnd (x * sn d))
theorem partOf_eq {k : Nat} (hk : 2 ≤ k) {x d : Int} (hx : -100000 ≤ x ∧ x ≤ 100000) (h0 : -1000000 ≤ d) (h1 : d ≤ 1000000) : impl_partOf.f k x d = some (partP x d) := by
  obtain ⟨k, rfl⟩ : ∃ m, k = m + 2 := ⟨k - 2, by omega⟩
  have b1 := prod_bound hx (sn_bound (d + 90))
  have b2 := prod_bound hx (sn_bound d)
  unfold impl_partOf.f
  rw [implCos_eq h0 h1, implSine_eq]
  simp only [Option.bind_some]
  rw [wprod hx (sn_bound (d + 90)), wprod hx (sn_bound d), rounded_eq k _ (by omega) (by omega), rounded_eq k _ (by omega) (by omega)]
  rfl

theorem beqd (a b : Int) : (a == b) = decide (a = b) := by by_cases h : a = b <;> simp [h]

def vLeg (f t tp c s : Int) : Bool := decide ((0 ≤ f ∧ f ≤ 7) ∧ (0 ≤ t ∧ t ≤ 7) ∧ f ≠ t ∧ (1 ≤ tp ∧ tp ≤ 500) ∧ (0 ≤ c ∧ c ≤ 359) ∧ (-90 ≤ s ∧ s ≤ 90))

theorem l4Leg_eq (f t tp c s : Int) : spec_l4Leg.f f t tp c s = some (vLeg f t tp c s) := by
  unfold spec_l4Leg.f spec_l4Station.f spec_l2Bearing.f vLeg
  simp only [l1In_eq, Option.bind_some, decide_eq_true_eq]
  repeat' split
  all_goals first | exact congrArg some (decide_eq_decide.mpr (by omega)) | exact congrArg some (decide_eq_false (by omega)).symm

theorem isLeg_eq (f t tp c s : Int) : impl_IsLeg.f f t tp c s = some (vLeg f t tp c s) := by
  unfold impl_IsLeg.f impl_isStation.f impl_isBearing.f vLeg
  simp only [within_eq, Option.bind_some, decide_eq_true_eq]
  repeat' split
  all_goals first | exact congrArg some (decide_eq_decide.mpr (by omega)) | exact congrArg some (decide_eq_false (by omega)).symm

theorem rnd_bound5 {a : Int} (h0 : -100000000 ≤ a) (h1 : a ≤ 100000000) : -100000 ≤ rnd a ∧ rnd a ≤ 100000 := by
  unfold rnd
  split <;> omega
/-- The shift of a leg. -/
def shiftP (t b s : Int) : Int × Int × Int := (rnd (rnd (t * sn (s + 90)) * sn b), rnd (rnd (t * sn (s + 90)) * sn (b + 90)), rnd (t * sn s))
theorem shift_eqs {f g t b s : Int} {k : Nat} (hk : 2 ≤ k) (h : vLeg f g t b s = true) : spec_l4Shift.f f g t b s = some (shiftP t b s) ∧ impl_Leg_shift.f k f g t b s = some (shiftP t b s) := by
  unfold vLeg at h
  simp only [decide_eq_true_eq] at h
  have ht : -100000 ≤ t ∧ t ≤ 100000 := by omega
  have hb0 : -1000000 ≤ b := by omega
  have hb1 : b ≤ 1000000 := by omega
  have hs0 : -1000000 ≤ s := by omega
  have hs1 : s ≤ 1000000 := by omega
  have p1 := prod_bound ht (sn_bound (s + 90))
  have p2 := prod_bound ht (sn_bound s)
  have hl := rnd_bound5 p1.1 p1.2
  have q1 := prod_bound hl (sn_bound b)
  have q2 := prod_bound hl (sn_bound (b + 90))
  constructor
  · unfold spec_l4Shift.f
    simp only [specCos_eq hs0 hs1, specCos_eq hb0 hb1, specSine_eq, Option.bind_some, wprod ht (sn_bound (s + 90)), wprod ht (sn_bound s),
      l2Div_eq (show -2000000000 ≤ t * sn (s + 90) by omega) (by omega), l2Div_eq (show -2000000000 ≤ t * sn s by omega) (by omega), wprod hl (sn_bound b), wprod hl (sn_bound (b + 90)),
      l2Div_eq (show -2000000000 ≤ rnd (t * sn (s + 90)) * sn b by omega) (by omega), l2Div_eq (show -2000000000 ≤ rnd (t * sn (s + 90)) * sn (b + 90) by omega) (by omega), shiftP]
  · unfold impl_Leg_shift.f
    simp only [partOf_eq hk ht hs0 hs1, partP, Option.bind_some, partOf_eq hk hl hb0 hb1, shiftP]

def vL (x : S28) : Bool := vLeg x.f0 x.f1 x.f2 x.f3 x.f4
theorem legs_loops (l : List S28) (hl : l.length ≤ 140737488351232) : ∀ (xs : List S28) (k n : Nat), l.drop n = xs → xs.length < k →
    spec_l4Legs.l0 k l (n : Int) = some (xs.all vL && decide (l.length ≤ 12)) ∧ impl_areLegs.l0 k l l (l.length : Int) (n : Int) = some (xs.all vL && decide (l.length ≤ 12))
  | [], k, n, hx, hk => by
    obtain ⟨k, rfl⟩ : ∃ m, k = m + 1 := ⟨k - 1, by omega⟩
    have hn : l.length ≤ n := List.drop_eq_nil_iff.mp hx
    simp only [spec_l4Legs.l0, impl_areLegs.l0]
    rw [if_neg (by omega), if_neg (by omega)]
    have e : decide ((l.length : Int) ≤ 12) = decide (l.length ≤ 12) := decide_eq_decide.mpr (by omega)
    simp [e]
  | x :: xs, k, n, hx, hk => by
    obtain ⟨k, rfl⟩ : ∃ m, k = m + 1 := ⟨k - 1, by omega⟩
    have hn : n < l.length := by
      have := congrArg List.length hx
      simp at this
      omega
    have hd := List.drop_eq_getElem_cons hn
    rw [hx] at hd
    obtain ⟨h1, h2⟩ := List.cons.inj hd
    have ew : wrap64 ((n : Int) + 1) = ((n + 1 : Nat) : Int) := (w64 (by omega) (by omega)).trans (by omega)
    have er : rd_T28 l (n : Int) = x := by simp [rd_T28, hn, h1]
    have c1 : (n : Int) < (l.length : Int) := by omega
    have c2 : 0 ≤ (n : Int) := by omega
    have hk' : xs.length < k := by simp at hk; omega
    obtain ⟨i1, i2⟩ := legs_loops l hl xs k (n + 1) h2.symm hk'
    simp only [spec_l4Legs.l0, impl_areLegs.l0, if_pos c1, if_pos c2, er, ew, l4Leg_eq, isLeg_eq, Option.bind_some, List.all_cons]
    have ev : vLeg x.f0 x.f1 x.f2 x.f3 x.f4 = vL x := rfl
    rw [ev]
    cases vL x with
    | false => simp
    | true => simpa using ⟨i1, i2⟩
/-- Are the legs valid? -/
def vLs (l : List S28) : Bool := l.all vL && decide (l.length ≤ 12)
theorem specLegs_eq (l : List S28) (hl : l.length ≤ 140737488351232) {k : Nat} (hk : l.length < k) : spec_l4Legs.f k l = some (vLs l) := (legs_loops l hl l k 0 rfl hk).1
theorem implLegs_eq (l : List S28) (hl : l.length ≤ 140737488351232) {k : Nat} (hk : l.length < k) : impl_areLegs.f k l = some (vLs l) := (legs_loops l hl l k 0 rfl hk).2

theorem set_step {α : Type} (m : List α) (z : α) (i n : Nat) (hm : m.length = n) (hi : i < n) :
    (m.take i ++ (List.replicate n z).drop i).set i (m[i]'(by omega)) = m.take (i + 1) ++ (List.replicate n z).drop (i + 1) := by
  have e1 : (List.replicate n z).drop i = z :: (List.replicate n z).drop (i + 1) := by
    rw [List.drop_eq_getElem_cons (by simpa using hi)]
    simp
  have e2 : (m.take i).length = i := by simp; omega
  rw [List.set_append_right _ _ (by omega), e2, Nat.sub_self, e1, List.set_cons_zero, List.take_succ_eq_append_getElem (by omega), List.append_assoc]
  rfl

/-- The conversion of a struct, field by field. -/
def cv23 (x : S23) : S28 := ⟨x.f0, x.f1, x.f2, x.f3, x.f4⟩
theorem laws_toLegS_loop (l : List S23) (hl : l.length ≤ 140737488351232) (d : Nat) : ∀ (k i : Nat), i + d = l.length → d < k →
    laws_toLegS.l0 k l ((l.map cv23).take i ++ (List.replicate l.length z28).drop i) (i : Int) = some (l.map cv23) := by
  induction d with
  | zero =>
    intro k i hd hk
    obtain ⟨k, rfl⟩ : ∃ m, k = m + 1 := ⟨k - 1, by omega⟩
    simp only [laws_toLegS.l0]
    rw [if_neg (by omega)]
    have e : i = l.length := by omega
    subst e
    rw [List.take_of_length_le (by simp), List.drop_of_length_le (by simp), List.append_nil]
  | succ d ih =>
    intro k i hd hk
    obtain ⟨k, rfl⟩ : ∃ m, k = m + 1 := ⟨k - 1, by omega⟩
    have hi : i < l.length := by omega
    have hlen : ((l.map cv23).take i ++ (List.replicate l.length z28).drop i).length = l.length := by simp; omega
    have ew : wrap64 ((i : Int) + 1) = ((i + 1 : Nat) : Int) := (w64 (by omega) (by omega)).trans (by omega)
    have er : rd_T23 l (i : Int) = l[i] := by simp [rd_T23, hi]
    simp only [laws_toLegS.l0, laws_toLeg.f, Option.bind_some]
    rw [if_pos (by omega), if_pos (by omega), if_pos (by rw [hlen]; omega), ew, er]
    have es : (((l.map cv23).take i ++ (List.replicate l.length z28).drop i).set (i : Int).toNat (cv23 l[i])) = (l.map cv23).take (i + 1) ++ (List.replicate l.length z28).drop (i + 1) := by
      have := set_step (l.map cv23) z28 i l.length (by simp) hi
      simpa using this
    have h := ih k (i + 1) (by omega) (by omega)
    rw [← es] at h
    exact h
theorem laws_toLegS_eq (l : List S23) (hl : l.length ≤ 2097152) {k : Nat} (hk : l.length < k) : laws_toLegS.f k l = some (l.map cv23) := by
  unfold laws_toLegS.f
  rw [if_pos (by omega), if_pos (by rw [Int.toNat_natCast]; omega)]
  have h := laws_toLegS_loop l (by omega) l.length k 0 (by omega) hk
  simpa using h

theorem laws_eqLeg_same (x : S28) : laws_eqLeg.f x.f0 x.f1 x.f2 x.f3 x.f4 x.f0 x.f1 x.f2 x.f3 x.f4 = some true := by unfold laws_eqLeg.f; simp
theorem laws_eqLegS_loop (l : List S28) (hl : l.length ≤ 140737488351232) (d : Nat) : ∀ (k i : Nat), i + d = l.length → d < k → laws_eqLegS.l0 k l l (i : Int) = some true := by
  induction d with
  | zero =>
    intro k i hd hk
    obtain ⟨k, rfl⟩ : ∃ m, k = m + 1 := ⟨k - 1, by omega⟩
    simp only [laws_eqLegS.l0]
    rw [if_neg (by omega)]
  | succ d ih =>
    intro k i hd hk
    obtain ⟨k, rfl⟩ : ∃ m, k = m + 1 := ⟨k - 1, by omega⟩
    have ew : wrap64 ((i : Int) + 1) = ((i + 1 : Nat) : Int) := (w64 (by omega) (by omega)).trans (by omega)
    simp only [laws_eqLegS.l0, laws_eqLeg_same, Option.bind_some, if_true]
    rw [if_pos (by omega), if_pos (by omega), if_pos (by omega), ew]
    exact ih k (i + 1) (by omega) (by omega)
theorem laws_eqLegS_eq (l : List S28) (hl : l.length ≤ 140737488351232) {k : Nat} (hk : l.length < k) : laws_eqLegS.f k l l = some true := by
  unfold laws_eqLegS.f
  rw [if_pos rfl]
  exact laws_eqLegS_loop l hl l.length k 0 (by omega) hk

theorem chain_loops (l : List S28) (hl : l.length ≤ 140737488351232) (hv : l.all vL = true) (d : Nat) : ∀ (k i : Nat) (x y z : Int), i + d = l.length → 2 * d + 4 < k →
    ∃ r, spec_ChainShift.l0 k l (i : Int) x y z = some r ∧ impl_ChainShift.l0 k l l (l.length : Int) (i : Int) x y z = some r := by
  induction d with
  | zero =>
    intro k i x y z hd hk
    obtain ⟨k, rfl⟩ : ∃ m, k = m + 1 := ⟨k - 1, by omega⟩
    refine ⟨(x, y, z, true), ?_, ?_⟩
    · simp only [spec_ChainShift.l0]; rw [if_neg (by omega)]
    · simp only [impl_ChainShift.l0]; rw [if_neg (by omega)]
  | succ d ih =>
    intro k i x y z hd hk
    obtain ⟨k, rfl⟩ : ∃ m, k = m + 2 := ⟨k - 2, by omega⟩
    have ew : wrap64 ((i : Int) + 1) = ((i + 1 : Nat) : Int) := (w64 (by omega) (by omega)).trans (by omega)
    have ep : wrap64 ((i : Int) - 1) = (i : Int) - 1 := w64 (by omega) (by omega)
    have c1 : (i : Int) < (l.length : Int) := by omega
    have c2 : 0 ≤ (i : Int) := by omega
    have hi : i < l.length := by omega
    have hx : vL (rd_T28 l (i : Int)) = true := by
      have e : rd_T28 l (i : Int) = l[i] := by simp [rd_T28, hi]
      rw [e]
      exact List.all_eq_true.mp hv _ (List.getElem_mem hi)
    generalize hq : rd_T28 l (i : Int) = q at hx
    obtain ⟨e1, e2⟩ := shift_eqs (k := k) (show 2 ≤ k by omega) (show vLeg q.f0 q.f1 q.f2 q.f3 q.f4 = true from hx)
    obtain ⟨r, i1, i2⟩ := ih k (i + 1) (wrap64 (x + wrap64 (1 * (shiftP q.f2 q.f3 q.f4).1))) (wrap64 (y + wrap64 (1 * (shiftP q.f2 q.f3 q.f4).2.1))) (wrap64 (z + wrap64 (1 * (shiftP q.f2 q.f3 q.f4).2.2))) (by omega) (by omega)
    have hj : ∀ b : Bool, ∃ r, spec_ChainShift.j1 (k + 1) l (i : Int) b x y z = some r ∧ impl_ChainShift.j1 (k + 1) l l (l.length : Int) (i : Int) b x y z q.f0 q.f1 q.f2 q.f3 q.f4 = some r := by
      intro b
      cases b with
      | true => exact ⟨(0, 0, 0, false), by simp [spec_ChainShift.j1], by simp [impl_ChainShift.j1]⟩
      | false =>
        refine ⟨r, ?_, ?_⟩
        · simp only [spec_ChainShift.j1, Bool.false_eq_true, if_false, if_pos c1, if_pos c2, hq, e1, Option.bind_some, spec_l4Plus.f, ew, i1]
        · simp only [impl_ChainShift.j1, Bool.false_eq_true, if_false, e2, Option.bind_some, impl_Shift_plus.f, ew, i2]
    by_cases c0 : (i : Int) > 0
    · have c3 : 0 ≤ (i : Int) - 1 := by omega
      have c4 : (i : Int) - 1 < (l.length : Int) := by omega
      obtain ⟨r, h1, h2⟩ := hj ((rd_T28 l ((i : Int) - 1)).f1 != q.f0)
      refine ⟨r, ?_, ?_⟩
      · simp only [spec_ChainShift.l0, if_pos c1, if_pos c0, if_pos c2, ep, if_pos c3, if_pos c4, hq, h1]
      · simp only [impl_ChainShift.l0, if_pos c1, if_pos c0, if_pos c2, ep, if_pos c3, if_pos c4, hq, h2]
    · obtain ⟨r, h1, h2⟩ := hj false
      refine ⟨r, ?_, ?_⟩
      · simp only [spec_ChainShift.l0, if_pos c1, if_neg c0, h1]
      · simp only [impl_ChainShift.l0, if_pos c1, if_neg c0, if_pos c2, hq, h2]
theorem chain_eq (l : List S28) (hl : l.length ≤ 140737488351232) {k : Nat} (hk : 2 * l.length + 4 < k) : ∃ r, spec_ChainShift.f k l = some r ∧ impl_ChainShift.f k l = some r := by
  unfold spec_ChainShift.f impl_ChainShift.f
  rw [specLegs_eq l hl (by omega), implLegs_eq l hl (by omega)]
  simp only [Option.bind_some]
  by_cases h : vLs l = true
  · have hv : l.all vL = true := by unfold vLs at h; simp only [Bool.and_eq_true] at h; exact h.1
    obtain ⟨r, e1, e2⟩ := chain_loops l hl hv l.length k 0 0 0 0 (by omega) hk
    have e1' : spec_ChainShift.l0 k l 0 0 0 0 = some r := e1
    have e2' : impl_ChainShift.l0 k l l (l.length : Int) 0 0 0 0 = some r := e2
    exact ⟨r, by rw [if_pos h, e1'], by rw [if_pos h, e2']⟩
  · exact ⟨(0, 0, 0, false), by rw [if_neg h], by rw [if_neg h]⟩
theorem FnExactChainShift : Asked := by
  intro l hl _
  by_cases hs : wrap64 (1048576 - (l.length : Int)) < 0
  · refine ⟨0, ?_⟩
    unfold laws_FnExactChainShift.f laws_szLegS.f
    rw [if_pos hs]
    simp
  · rw [w64 (by omega) (by omega)] at hs
    have ht : ∀ k, l.length < k → laws_toLegS.f k l = some (l.map cv23) := fun k hk => laws_toLegS_eq l (by omega) hk
    have hlen : (l.map cv23).length = l.length := by simp
    obtain ⟨⟨x, y, z, b⟩, e1, e2⟩ := chain_eq (l.map cv23) (by rw [hlen]; omega) (k := 2 * l.length + 6) (by rw [hlen]; omega)
    refine ⟨2 * l.length + 6, ?_⟩
    unfold laws_FnExactChainShift.f laws_szLegS.f
    rw [w64 (by omega) (by omega), if_neg hs]
    simp only [Option.bind_some]
    rw [if_neg hs, ht _ (by omega)]
    simp only [Option.bind_some, e1, e2, laws_eqShift.f, if_true]
    simp only [laws_FnExactChainShift.j0, ht _ (show l.length < 2 * l.length + 5 by omega), laws_eqLegS_eq (l.map cv23) (by rw [hlen]; omega) (show (l.map cv23).length < 2 * l.length + 5 by rw [hlen]; omega), Option.bind_some]
    simp
end Go.Proofs.YtjcmolbaanedaaaDoor.Pure
