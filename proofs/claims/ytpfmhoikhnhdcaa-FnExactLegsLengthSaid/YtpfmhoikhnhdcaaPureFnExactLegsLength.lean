/- The pure statement of the law of LegsLength: true for every list of legs; no condition but the slice's reach. -/
import Derived.Test.YtpfmhoikhnhdcaaAskFnExactLegsLength
namespace Go.Proofs.Ytpfmhoikhnhdcaa.Pure
open Go.RowKit Go.Proofs.Ytpfmhoikhnhdcaa.PFnExactLegsLength Go.Proofs.Ytpfmhoikhnhdcaa.AskFnExactLegsLength Go.Proofs.YtpfmhoikhnhdcaaW.PrintWords Go.Proofs.YtpfmhoikhnhdcaaW.PrintLast
set_option linter.unusedVariables false
set_option linter.unusedSimpArgs false

theorem l1In_eq (a b c : Int) : spec_l1In.f a b c = some (decide (b ≤ a ∧ a ≤ c)) := by
  unfold spec_l1In.f
  by_cases h : a ≥ b
  · rw [if_pos h]
    have h' : b ≤ a := h
    simp [h']
  · rw [if_neg h]
    have h' : ¬ b ≤ a := h
    simp [h']

theorem beqd (a b : Int) : (a == b) = decide (a = b) := by by_cases h : a = b <;> simp [h]

def vLeg (f t tp c s : Int) : Bool := decide ((0 ≤ f ∧ f ≤ 7) ∧ (0 ≤ t ∧ t ≤ 7) ∧ f ≠ t ∧ (1 ≤ tp ∧ tp ≤ 500) ∧ (0 ≤ c ∧ c ≤ 359) ∧ (-90 ≤ s ∧ s ≤ 90))

theorem l4Leg_eq (f t tp c s : Int) : spec_l4Leg.f f t tp c s = some (vLeg f t tp c s) := by
  unfold spec_l4Leg.f spec_l4Station.f spec_l2Bearing.f vLeg
  simp only [l1In_eq, Option.bind_some, decide_eq_true_eq]
  repeat' split
  all_goals first | exact congrArg some (decide_eq_decide.mpr (by omega)) | exact congrArg some (decide_eq_false (by omega)).symm

theorem within_eq (a b c : Int) : impl_within.f a b c = some (decide (b ≤ a ∧ a ≤ c)) := by
  unfold impl_within.f
  by_cases h : a ≥ b
  · rw [if_pos h]
    have h' : b ≤ a := h
    simp [h']
  · rw [if_neg h]
    have h' : ¬ b ≤ a := h
    simp [h']

theorem isLeg_eq (f t tp c s : Int) : impl_IsLeg.f f t tp c s = some (vLeg f t tp c s) := by
  unfold impl_IsLeg.f impl_isStation.f impl_isBearing.f vLeg
  simp only [within_eq, Option.bind_some, decide_eq_true_eq]
  repeat' split
  all_goals first | exact congrArg some (decide_eq_decide.mpr (by omega)) | exact congrArg some (decide_eq_false (by omega)).symm

theorem w64 {x : Int} (h0 : -9223372036854775808 ≤ x) (h1 : x ≤ 9223372036854775807) : wrap64 x = x := by
  unfold wrap64
  omega

def vL (x : S113) : Bool := vLeg x.f0 x.f1 x.f2 x.f3 x.f4
theorem legs_loops (l : List S113) (hl : l.length ≤ 140737488351232) : ∀ (xs : List S113) (k n : Nat), l.drop n = xs → xs.length < k →
    spec_l4Legs.l0 k l (n : Int) = some (xs.all vL && decide (l.length ≤ 12)) ∧ impl_areLegs.l0 k l l (l.length : Int) (n : Int) = some (xs.all vL && decide (l.length ≤ 12))
  | [], k, n, hx, hk => by
    obtain ⟨k, rfl⟩ : ∃ m, k = m + 1 := ⟨k - 1, by omega⟩
    have hn : l.length ≤ n := List.drop_eq_nil_iff.mp hx
    simp only [spec_l4Legs.l0, impl_areLegs.l0]
    rw [if_neg (by omega), if_neg (by omega)]
    have e : decide ((l.length : Int) ≤ 12) = decide (l.length ≤ 12) := decide_eq_decide.mpr (by omega)
    simp [e]
  | x :: xs, k, n, hx, hk => by
    obtain ⟨k, rfl⟩ : ∃ m, k = m + 1 := ⟨k - 1, by omega⟩
    have hn : n < l.length := by
      have := congrArg List.length hx
      simp at this
      omega
    have hd := List.drop_eq_getElem_cons hn
    rw [hx] at hd
    obtain ⟨h1, h2⟩ := List.cons.inj hd
    have ew : wrap64 ((n : Int) + 1) = ((n + 1 : Nat) : Int) := (w64 (by omega) (by omega)).trans (by omega)
    have er : rd_T113 l (n : Int) = x := by simp [rd_T113, hn, h1]
    have c1 : (n : Int) < (l.length : Int) := by omega
    have c2 : 0 ≤ (n : Int) := by omega
    have hk' : xs.length < k := by simp at hk; omega
    obtain ⟨i1, i2⟩ := legs_loops l hl xs k (n + 1) h2.symm hk'
    simp only [spec_l4Legs.l0, impl_areLegs.l0, if_pos c1, if_pos c2, er, ew, l4Leg_eq, isLeg_eq, Option.bind_some, List.all_cons]
    have ev : vLeg x.f0 x.f1 x.f2 x.f3 x.f4 = vL x := rfl
    rw [ev]
    cases vL x with
    | false => simp
    | true => simpa using ⟨i1, i2⟩
/-- Are the legs valid? -/
def vLs (l : List S113) : Bool := l.all vL && decide (l.length ≤ 12)
theorem specLegs_eq (l : List S113) (hl : l.length ≤ 140737488351232) {k : Nat} (hk : l.length < k) : spec_l4Legs.f k l = some (vLs l) := (legs_loops l hl l k 0 rfl hk).1
theorem implLegs_eq (l : List S113) (hl : l.length ≤ 140737488351232) {k : Nat} (hk : l.length < k) : impl_areLegs.f k l = some (vLs l) := (legs_loops l hl l k 0 rfl hk).2

theorem set_step {α : Type} (m : List α) (z : α) (i n : Nat) (hm : m.length = n) (hi : i < n) :
    (m.take i ++ (List.replicate n z).drop i).set i (m[i]'(by omega)) = m.take (i + 1) ++ (List.replicate n z).drop (i + 1) := by
  have e1 : (List.replicate n z).drop i = z :: (List.replicate n z).drop (i + 1) := by
    rw [List.drop_eq_getElem_cons (by simpa using hi)]
    simp
  have e2 : (m.take i).length = i := by simp; omega
  rw [List.set_append_right _ _ (by omega), e2, Nat.sub_self, e1, List.set_cons_zero, List.take_succ_eq_append_getElem (by omega), List.append_assoc]
  rfl

/-- The conversion of a struct, field by field. -/
def cv115 (x : S115) : S113 := ⟨x.f0, x.f1, x.f2, x.f3, x.f4⟩
theorem laws_toLegS_loop (l : List S115) (hl : l.length ≤ 140737488351232) (d : Nat) : ∀ (k i : Nat), i + d = l.length → d < k →
    laws_toLegS.l0 k l ((l.map cv115).take i ++ (List.replicate l.length z113).drop i) (i : Int) = some (l.map cv115) := by
  induction d with
  | zero =>
    intro k i hd hk
    obtain ⟨k, rfl⟩ : ∃ m, k = m + 1 := ⟨k - 1, by omega⟩
    simp only [laws_toLegS.l0]
    rw [if_neg (by omega)]
    have e : i = l.length := by omega
    subst e
    rw [List.take_of_length_le (by simp), List.drop_of_length_le (by simp), List.append_nil]
  | succ d ih =>
    intro k i hd hk
    obtain ⟨k, rfl⟩ : ∃ m, k = m + 1 := ⟨k - 1, by omega⟩
    have hi : i < l.length := by omega
    have hlen : ((l.map cv115).take i ++ (List.replicate l.length z113).drop i).length = l.length := by simp; omega
    have ew : wrap64 ((i : Int) + 1) = ((i + 1 : Nat) : Int) := (w64 (by omega) (by omega)).trans (by omega)
    have er : rd_T115 l (i : Int) = l[i] := by simp [rd_T115, hi]
    simp only [laws_toLegS.l0, laws_toLeg.f, Option.bind_some]
    rw [if_pos (by omega), if_pos (by omega), if_pos (by rw [hlen]; omega), ew, er]
    have es : (((l.map cv115).take i ++ (List.replicate l.length z113).drop i).set (i : Int).toNat (cv115 l[i])) = (l.map cv115).take (i + 1) ++ (List.replicate l.length z113).drop (i + 1) := by
      have := set_step (l.map cv115) z113 i l.length (by simp) hi
      simpa using this
    have h := ih k (i + 1) (by omega) (by omega)
    rw [← es] at h
    exact h
theorem laws_toLegS_eq (l : List S115) (hl : l.length ≤ 2097152) {k : Nat} (hk : l.length < k) : laws_toLegS.f k l = some (l.map cv115) := by
  unfold laws_toLegS.f
  rw [if_pos (by omega), if_pos (by rw [Int.toNat_natCast]; omega)]
  have h := laws_toLegS_loop l (by omega) l.length k 0 (by omega) hk
  simpa using h

theorem laws_eqLeg_same (x : S113) : laws_eqLeg.f x.f0 x.f1 x.f2 x.f3 x.f4 x.f0 x.f1 x.f2 x.f3 x.f4 = some true := by unfold laws_eqLeg.f; simp
theorem laws_eqLegS_loop (l : List S113) (hl : l.length ≤ 140737488351232) (d : Nat) : ∀ (k i : Nat), i + d = l.length → d < k → laws_eqLegS.l0 k l l (i : Int) = some true := by
  induction d with
  | zero =>
    intro k i hd hk
    obtain ⟨k, rfl⟩ : ∃ m, k = m + 1 := ⟨k - 1, by omega⟩
    simp only [laws_eqLegS.l0]
    rw [if_neg (by omega)]
  | succ d ih =>
    intro k i hd hk
    obtain ⟨k, rfl⟩ : ∃ m, k = m + 1 := ⟨k - 1, by omega⟩
    have ew : wrap64 ((i : Int) + 1) = ((i + 1 : Nat) : Int) := (w64 (by omega) (by omega)).trans (by omega)
    simp only [laws_eqLegS.l0, laws_eqLeg_same, Option.bind_some, if_true]
    rw [if_pos (by omega), if_pos (by omega), if_pos (by omega), ew]
    exact ih k (i + 1) (by omega) (by omega)
theorem laws_eqLegS_eq (l : List S113) (hl : l.length ≤ 140737488351232) {k : Nat} (hk : l.length < k) : laws_eqLegS.f k l l = some true := by
  unfold laws_eqLegS.f
  rw [if_pos rfl]
  exact laws_eqLegS_loop l hl l.length k 0 (by omega) hk

theorem sum_loops (l : List S113) (hl : l.length ≤ 140737488351232) (d : Nat) : ∀ (k i : Nat) (x : Int), i + d = l.length → d < k →
    ∃ r, spec_LegsLength.l0 k l x (i : Int) = some (r, true) ∧ impl_legsLength.l0 k x l (l.length : Int) (i : Int) = some r := by
  induction d with
  | zero =>
    intro k i x hd hk
    obtain ⟨k, rfl⟩ : ∃ m, k = m + 1 := ⟨k - 1, by omega⟩
    refine ⟨x, ?_, ?_⟩
    · simp only [spec_LegsLength.l0]; rw [if_neg (by omega)]
    · simp only [impl_legsLength.l0]; rw [if_neg (by omega)]
  | succ d ih =>
    intro k i x hd hk
    obtain ⟨k, rfl⟩ : ∃ m, k = m + 1 := ⟨k - 1, by omega⟩
    have ew : wrap64 ((i : Int) + 1) = ((i + 1 : Nat) : Int) := (w64 (by omega) (by omega)).trans (by omega)
    have c1 : (i : Int) < (l.length : Int) := by omega
    have c2 : 0 ≤ (i : Int) := by omega
    simp only [spec_LegsLength.l0, impl_legsLength.l0, if_pos c1, if_pos c2, ew]
    exact ih k (i + 1) _ (by omega) (by omega)
theorem legsLength_eq (l : List S113) (hl : l.length ≤ 140737488351232) {k : Nat} (hk : l.length < k) : ∃ r b, spec_LegsLength.f k l = some (r, b) ∧ impl_LegsLength.f k l = some (r, b) := by
  unfold spec_LegsLength.f impl_LegsLength.f
  rw [specLegs_eq l hl hk, implLegs_eq l hl hk]
  simp only [Option.bind_some]
  cases vLs l with
  | false => exact ⟨0, false, by simp, by simp⟩
  | true =>
    obtain ⟨r, e1, e2⟩ := sum_loops l hl l.length k 0 0 (by omega) hk
    refine ⟨r, true, by simpa using e1, ?_⟩
    unfold impl_legsLength.f
    have e2' : impl_legsLength.l0 k 0 l (l.length : Int) 0 = some r := e2
    simp [e2']
theorem FnExactLegsLength : Asked := by
  intro l hl _
  by_cases hs : wrap64 (1048576 - (l.length : Int)) < 0
  · refine ⟨0, ?_⟩
    unfold laws_FnExactLegsLength.f laws_szLegS.f
    rw [if_pos hs]
    simp
  · rw [w64 (by omega) (by omega)] at hs
    have ht : ∀ k, l.length < k → laws_toLegS.f k l = some (l.map cv115) := fun k hk => laws_toLegS_eq l (by omega) hk
    have hlen : (l.map cv115).length = l.length := by simp
    obtain ⟨r, b, e1, e2⟩ := legsLength_eq (l.map cv115) (by rw [hlen]; omega) (k := l.length + 2) (by rw [hlen]; omega)
    refine ⟨l.length + 2, ?_⟩
    unfold laws_FnExactLegsLength.f laws_szLegS.f
    rw [w64 (by omega) (by omega), if_neg hs]
    simp only [Option.bind_some]
    rw [if_neg hs, ht _ (by omega)]
    simp only [Option.bind_some, e1, e2, if_true]
    simp only [laws_FnExactLegsLength.j0, ht _ (show l.length < l.length + 1 by omega), laws_eqLegS_eq (l.map cv115) (by rw [hlen]; omega) (show (l.map cv115).length < l.length + 1 by rw [hlen]; omega), Option.bind_some]
    simp
end Go.Proofs.Ytpfmhoikhnhdcaa.Pure
