/- The pure statement of the law of LegsAt: true for every list of legs and every number; no condition but the slice's reach. -/
import Derived.Test.YtpfmhoikhnhdcaaAskFnExactLegsAt
namespace Go.Proofs.Ytpfmhoikhnhdcaa.Pure
open Go.RowKit Go.Proofs.Ytpfmhoikhnhdcaa.PFnExactLegsAt Go.Proofs.Ytpfmhoikhnhdcaa.AskFnExactLegsAt Go.Proofs.YtpfmhoikhnhdcaaW.PrintWords Go.Proofs.YtpfmhoikhnhdcaaW.PrintLast
set_option linter.unusedVariables false
set_option linter.unusedSimpArgs false

theorem l1In_eq (a b c : Int) : spec_l1In.f a b c = some (decide (b ≤ a ∧ a ≤ c)) := by
  unfold spec_l1In.f
  by_cases h : a ≥ b
  · rw [if_pos h]
    have h' : b ≤ a := h
    simp [h']
  · rw [if_neg h]
    have h' : ¬ b ≤ a := h
    simp [h']

theorem beqd (a b : Int) : (a == b) = decide (a = b) := by by_cases h : a = b <;> simp [h]

def vLeg (f t tp c s : Int) : Bool := decide ((0 ≤ f ∧ f ≤ 7) ∧ (0 ≤ t ∧ t ≤ 7) ∧ f ≠ t ∧ (1 ≤ tp ∧ tp ≤ 500) ∧ (0 ≤ c ∧ c ≤ 359) ∧ (-90 ≤ s ∧ s ≤ 90))

theorem l4Leg_eq (f t tp c s : Int) : spec_l4Leg.f f t tp c s = some (vLeg f t tp c s) := by
  unfold spec_l4Leg.f spec_l4Station.f spec_l2Bearing.f vLeg
  simp only [l1In_eq, Option.bind_some, decide_eq_true_eq]
  repeat' split
  all_goals first | exact congrArg some (decide_eq_decide.mpr (by omega)) | exact congrArg some (decide_eq_false (by omega)).symm

theorem within_eq (a b c : Int) : impl_within.f a b c = some (decide (b ≤ a ∧ a ≤ c)) := by
  unfold impl_within.f
  by_cases h : a ≥ b
  · rw [if_pos h]
    have h' : b ≤ a := h
    simp [h']
  · rw [if_neg h]
    have h' : ¬ b ≤ a := h
    simp [h']

theorem isLeg_eq (f t tp c s : Int) : impl_IsLeg.f f t tp c s = some (vLeg f t tp c s) := by
  unfold impl_IsLeg.f impl_isStation.f impl_isBearing.f vLeg
  simp only [within_eq, Option.bind_some, decide_eq_true_eq]
  repeat' split
  all_goals first | exact congrArg some (decide_eq_decide.mpr (by omega)) | exact congrArg some (decide_eq_false (by omega)).symm

theorem w64 {x : Int} (h0 : -9223372036854775808 ≤ x) (h1 : x ≤ 9223372036854775807) : wrap64 x = x := by
  unfold wrap64
  omega

def vL (x : S113) : Bool := vLeg x.f0 x.f1 x.f2 x.f3 x.f4
theorem legs_loops (l : List S113) (hl : l.length ≤ 140737488351232) : ∀ (xs : List S113) (k n : Nat), l.drop n = xs → xs.length < k →
    spec_l4Legs.l0 k l (n : Int) = some (xs.all vL && decide (l.length ≤ 12)) ∧ impl_areLegs.l0 k l l (l.length : Int) (n : Int) = some (xs.all vL && decide (l.length ≤ 12))
  | [], k, n, hx, hk => by
    obtain ⟨k, rfl⟩ : ∃ m, k = m + 1 := ⟨k - 1, by omega⟩
    have hn : l.length ≤ n := List.drop_eq_nil_iff.mp hx
    simp only [spec_l4Legs.l0, impl_areLegs.l0]
    rw [if_neg (by omega), if_neg (by omega)]
    have e : decide ((l.length : Int) ≤ 12) = decide (l.length ≤ 12) := decide_eq_decide.mpr (by omega)
    simp [e]
  | x :: xs, k, n, hx, hk => by
    obtain ⟨k, rfl⟩ : ∃ m, k = m + 1 := ⟨k - 1, by omega⟩
    have hn : n < l.length := by
      have := congrArg List.length hx
      simp at this
      omega
    have hd := List.drop_eq_getElem_cons hn
    rw [hx] at hd
    obtain ⟨h1, h2⟩ := List.cons.inj hd
    have ew : wrap64 ((n : Int) + 1) = ((n + 1 : Nat) : Int) := (w64 (by omega) (by omega)).trans (by omega)
    have er : rd_T113 l (n : Int) = x := by simp [rd_T113, hn, h1]
    have c1 : (n : Int) < (l.length : Int) := by omega
    have c2 : 0 ≤ (n : Int) := by omega
    have hk' : xs.length < k := by simp at hk; omega
    obtain ⟨i1, i2⟩ := legs_loops l hl xs k (n + 1) h2.symm hk'
    simp only [spec_l4Legs.l0, impl_areLegs.l0, if_pos c1, if_pos c2, er, ew, l4Leg_eq, isLeg_eq, Option.bind_some, List.all_cons]
    have ev : vLeg x.f0 x.f1 x.f2 x.f3 x.f4 = vL x := rfl
    rw [ev]
    cases vL x with
    | false => simp
    | true => simpa using ⟨i1, i2⟩
/-- Are the legs valid? -/
def vLs (l : List S113) : Bool := l.all vL && decide (l.length ≤ 12)
theorem specLegs_eq (l : List S113) (hl : l.length ≤ 140737488351232) {k : Nat} (hk : l.length < k) : spec_l4Legs.f k l = some (vLs l) := (legs_loops l hl l k 0 rfl hk).1
theorem implLegs_eq (l : List S113) (hl : l.length ≤ 140737488351232) {k : Nat} (hk : l.length < k) : impl_areLegs.f k l = some (vLs l) := (legs_loops l hl l k 0 rfl hk).2

theorem legsAt_loops (l : List S113) (s : Int) (hl : l.length ≤ 2097152) (d : Nat) : ∀ (k i : Nat) (o : List Int), i + d = l.length → o.length ≤ i → d < k →
    ∃ r : List Int, spec_LegsAt.l0 k l s o (i : Int) = some (r, true) ∧ impl_legsAt.l0 k s o l (l.length : Int) (i : Int) = some r ∧ r.length ≤ l.length := by
  induction d with
  | zero =>
    intro k i o hd ho hk
    obtain ⟨k, rfl⟩ : ∃ m, k = m + 1 := ⟨k - 1, by omega⟩
    refine ⟨o, ?_, ?_, by omega⟩
    · simp only [spec_LegsAt.l0]; rw [if_neg (by omega)]
    · simp only [impl_legsAt.l0]; rw [if_neg (by omega)]
  | succ d ih =>
    intro k i o hd ho hk
    obtain ⟨k, rfl⟩ : ∃ m, k = m + 1 := ⟨k - 1, by omega⟩
    have ew : wrap64 ((i : Int) + 1) = ((i + 1 : Nat) : Int) := (w64 (by omega) (by omega)).trans (by omega)
    have c1 : (i : Int) < (l.length : Int) := by omega
    have c2 : 0 ≤ (i : Int) := by omega
    have c3 : o.length < 17592186044416 := by omega
    have i1 := ih k (i + 1) (o ++ [(i : Int)]) (by omega) (by simp; omega) (by omega)
    have i2 := ih k (i + 1) o (by omega) (by omega) (by omega)
    simp only [spec_LegsAt.l0, impl_legsAt.l0, if_pos c1, if_pos c2, if_pos c3, ew]
    by_cases h1 : (rd_T113 l (i : Int)).f0 = s
    · simp only [if_pos h1]; exact i1
    · by_cases h2 : (rd_T113 l (i : Int)).f1 = s
      · simp only [if_neg h1, if_pos h2]; exact i1
      · simp only [if_neg h1, if_neg h2]; exact i2
theorem legsAt_eq (l : List S113) (s : Int) (hl : l.length ≤ 2097152) : ∃ r b, (∀ k, l.length + 2 < k → spec_LegsAt.f k l s = some (r, b) ∧ impl_LegsAt.f k l s = some (r, b)) ∧ r.length ≤ l.length ∧ True := by
  unfold spec_LegsAt.f impl_LegsAt.f spec_l4Station.f impl_isStation.f
  by_cases hv : vLs l = true ∧ 0 ≤ s ∧ s ≤ 7
  · obtain ⟨h0, h1, h2⟩ := hv
    obtain ⟨r, e1, e2, hr⟩ := legsAt_loops l s hl l.length (l.length + 1) 0 [] (by omega) (by simp) (by omega)
    refine ⟨r, true, fun k hk => ?_, hr, trivial⟩
    obtain ⟨k, rfl⟩ : ∃ m, k = m + 1 := ⟨k - 1, by omega⟩
    have same : ∀ k, l.length < k → spec_LegsAt.l0 k l s [] 0 = some (r, true) ∧ impl_legsAt.l0 k s [] l (l.length : Int) 0 = some r := by
      intro k hk
      obtain ⟨r', e3, e4, _⟩ := legsAt_loops l s hl l.length k 0 [] (by omega) (by simp) hk
      have m3 := at_rounds (fun k => (spec_LegsAt.mono_l k).2 l s [] 0) (show l.length + 1 ≤ max k (l.length + 1) by omega) e1
      have m4 := at_rounds (fun k => (spec_LegsAt.mono_l k).2 l s [] 0) (show k ≤ max k (l.length + 1) by omega) e3
      rw [m3] at m4
      have : r = r' := by simpa using m4
      subst this
      exact ⟨e3, e4⟩
    rw [specLegs_eq l (by omega) (by omega), implLegs_eq l (by omega) (by omega), h0]
    simp only [Option.bind_some, if_true, l1In_eq, within_eq, h1, h2, and_self, decide_true, Bool.not_true, spec_LegsAt.j0, Bool.false_eq_true, if_false, impl_legsAt.f]
    rw [(same k (by omega)).1, (same (k + 1) (by omega)).2]
    simp
  · refine ⟨[], false, fun k hk => ?_, by simp, trivial⟩
    obtain ⟨k, rfl⟩ : ∃ m, k = m + 1 := ⟨k - 1, by omega⟩
    rw [specLegs_eq l (by omega) (by omega), implLegs_eq l (by omega) (by omega)]
    simp only [Option.bind_some, l1In_eq, within_eq]
    cases hb : vLs l with
    | false => simp [spec_LegsAt.j0]
    | true =>
      have hn : ¬ (0 ≤ s ∧ s ≤ 7) := fun h => hv ⟨hb, h⟩
      simp [hn, spec_LegsAt.j0]

theorem set_step {α : Type} (m : List α) (z : α) (i n : Nat) (hm : m.length = n) (hi : i < n) :
    (m.take i ++ (List.replicate n z).drop i).set i (m[i]'(by omega)) = m.take (i + 1) ++ (List.replicate n z).drop (i + 1) := by
  have e1 : (List.replicate n z).drop i = z :: (List.replicate n z).drop (i + 1) := by
    rw [List.drop_eq_getElem_cons (by simpa using hi)]
    simp
  have e2 : (m.take i).length = i := by simp; omega
  rw [List.set_append_right _ _ (by omega), e2, Nat.sub_self, e1, List.set_cons_zero, List.take_succ_eq_append_getElem (by omega), List.append_assoc]
  rfl

theorem set_to {α : Type} (m r : List α) (i n : Nat) (hm : m.length = n) (hr : r.length = n) (hi : i < n) :
    (m.take i ++ r.drop i).set i (m[i]'(by omega)) = m.take (i + 1) ++ r.drop (i + 1) := by
  have e1 : r.drop i = r[i]'(by omega) :: r.drop (i + 1) := List.drop_eq_getElem_cons (by omega)
  have e2 : (m.take i).length = i := by simp; omega
  rw [List.set_append_right _ _ (by omega), e2, Nat.sub_self, e1, List.set_cons_zero, List.take_succ_eq_append_getElem (by omega), List.append_assoc]
  rfl
theorem eqInts_loop (l : List Int) (hl : l.length ≤ 140737488351232) (d : Nat) : ∀ (k i : Nat), i + d = l.length → d < k → laws_eqIntS.l0 k l l (i : Int) = some true := by
  induction d with
  | zero =>
    intro k i hd hk
    obtain ⟨k, rfl⟩ : ∃ m, k = m + 1 := ⟨k - 1, by omega⟩
    simp only [laws_eqIntS.l0]
    rw [if_neg (by omega)]
  | succ d ih =>
    intro k i hd hk
    obtain ⟨k, rfl⟩ : ∃ m, k = m + 1 := ⟨k - 1, by omega⟩
    have ew : wrap64 ((i : Int) + 1) = ((i + 1 : Nat) : Int) := (w64 (by omega) (by omega)).trans (by omega)
    have c1 : (i : Int) < (l.length : Int) := by omega
    have c2 : 0 ≤ (i : Int) := by omega
    simp only [laws_eqIntS.l0, if_pos c1, if_pos c2, if_true, ew]
    exact ih k (i + 1) (by omega) (by omega)
theorem eqInts_eq (l : List Int) (hl : l.length ≤ 140737488351232) {k : Nat} (hk : l.length < k) : laws_eqIntS.f k l l = some true := by
  unfold laws_eqIntS.f
  rw [if_pos rfl]
  exact eqInts_loop l hl l.length k 0 (by omega) hk
/-- 1, 2, .. -/
def marks (n : Nat) : List Int := (List.range n).map fun (j : Nat) => (j : Int) + 1
theorem marks_len (n : Nat) : (marks n).length = n := by simp [marks]
theorem marks_get (n i : Nat) (h : i < (marks n).length) : (marks n)[i] = (i : Int) + 1 := by simp [marks]
theorem markInts_loop (r : List Int) (hl : r.length ≤ 140737488351232) (d : Nat) : ∀ (k i : Nat), i + d = r.length → d < k →
    laws_markIntS.l0 k ((marks r.length).take i ++ r.drop i) ((i : Int) + 1) (i : Int) = some ((r.length : Int) + 1, marks r.length) := by
  induction d with
  | zero =>
    intro k i hd hk
    obtain ⟨k, rfl⟩ : ∃ m, k = m + 1 := ⟨k - 1, by omega⟩
    have e : i = r.length := by omega
    subst e
    have el : ((marks r.length).take r.length ++ r.drop r.length).length = r.length := by simp [marks_len]
    simp only [laws_markIntS.l0, el]
    rw [if_neg (by omega), List.take_of_length_le (by simp [marks_len]), List.drop_of_length_le (by simp), List.append_nil]
  | succ d ih =>
    intro k i hd hk
    obtain ⟨k, rfl⟩ : ∃ m, k = m + 1 := ⟨k - 1, by omega⟩
    have ew : wrap64 ((i : Int) + 1) = ((i + 1 : Nat) : Int) := (w64 (by omega) (by omega)).trans (by omega)
    have ew2 : wrap64 ((i : Int) + 1 + 1) = ((i + 1 : Nat) : Int) + 1 := (w64 (by omega) (by omega)).trans (by omega)
    have el : ((marks r.length).take i ++ r.drop i).length = r.length := by simp [marks_len]; omega
    have c1 : (i : Int) < (r.length : Int) := by omega
    have c2 : 0 ≤ (i : Int) := by omega
    have es := set_to (marks r.length) r i r.length (marks_len _) rfl (by omega)
    rw [marks_get] at es
    simp only [laws_markIntS.l0, el, if_pos c1, if_pos c2, ew, ew2, Int.toNat_natCast, es]
    exact ih k (i + 1) (by omega) (by omega)
theorem markInts_eq (r : List Int) (hl : r.length ≤ 140737488351232) {k : Nat} (hk : r.length < k) : laws_markIntS.f k r 1 = some ((r.length : Int) + 1, marks r.length) := by
  have h := markInts_loop r hl r.length k 0 (by omega) hk
  unfold laws_markIntS.f
  simpa using h
theorem heldInts_loop (n : Nat) (hl : n ≤ 140737488351232) (d : Nat) : ∀ (k i : Nat), i + d = n → d < k → laws_heldIntS.l0 k (marks n) ((i : Int) + 1) (i : Int) = some ((n : Int) + 1) := by
  induction d with
  | zero =>
    intro k i hd hk
    obtain ⟨k, rfl⟩ : ∃ m, k = m + 1 := ⟨k - 1, by omega⟩
    simp only [laws_heldIntS.l0, marks_len]
    rw [if_neg (by omega)]
    exact congrArg some (by omega)
  | succ d ih =>
    intro k i hd hk
    obtain ⟨k, rfl⟩ : ∃ m, k = m + 1 := ⟨k - 1, by omega⟩
    have ew : wrap64 ((i : Int) + 1) = ((i + 1 : Nat) : Int) := (w64 (by omega) (by omega)).trans (by omega)
    have ew2 : wrap64 ((i : Int) + 1 + 1) = ((i + 1 : Nat) : Int) + 1 := (w64 (by omega) (by omega)).trans (by omega)
    have c1 : (i : Int) < (n : Int) := by omega
    have c2 : 0 ≤ (i : Int) := by omega
    have hr : rd (marks n) (i : Int) = (i : Int) + 1 := by
      unfold rd
      rw [Int.toNat_natCast, List.getD_eq_getElem?_getD, List.getElem?_eq_getElem (by rw [marks_len]; omega), Option.getD_some, marks_get]
    simp only [laws_heldIntS.l0, marks_len, if_pos c1, if_pos c2, hr, if_true, ew, ew2]
    exact ih k (i + 1) (by omega) (by omega)
theorem heldInts_eq (n : Nat) (hl : n ≤ 140737488351232) {k : Nat} (hk : n < k) : laws_heldIntS.f k (marks n) 1 = some ((n : Int) + 1) := by
  have h := heldInts_loop n hl n k 0 (by omega) hk
  unfold laws_heldIntS.f
  simpa using h

/-- The conversion of a struct, field by field. -/
def cv115 (x : S115) : S113 := ⟨x.f0, x.f1, x.f2, x.f3, x.f4⟩
theorem laws_toLegS_loop (l : List S115) (hl : l.length ≤ 140737488351232) (d : Nat) : ∀ (k i : Nat), i + d = l.length → d < k →
    laws_toLegS.l0 k l ((l.map cv115).take i ++ (List.replicate l.length z113).drop i) (i : Int) = some (l.map cv115) := by
  induction d with
  | zero =>
    intro k i hd hk
    obtain ⟨k, rfl⟩ : ∃ m, k = m + 1 := ⟨k - 1, by omega⟩
    simp only [laws_toLegS.l0]
    rw [if_neg (by omega)]
    have e : i = l.length := by omega
    subst e
    rw [List.take_of_length_le (by simp), List.drop_of_length_le (by simp), List.append_nil]
  | succ d ih =>
    intro k i hd hk
    obtain ⟨k, rfl⟩ : ∃ m, k = m + 1 := ⟨k - 1, by omega⟩
    have hi : i < l.length := by omega
    have hlen : ((l.map cv115).take i ++ (List.replicate l.length z113).drop i).length = l.length := by simp; omega
    have ew : wrap64 ((i : Int) + 1) = ((i + 1 : Nat) : Int) := (w64 (by omega) (by omega)).trans (by omega)
    have er : rd_T115 l (i : Int) = l[i] := by simp [rd_T115, hi]
    simp only [laws_toLegS.l0, laws_toLeg.f, Option.bind_some]
    rw [if_pos (by omega), if_pos (by omega), if_pos (by rw [hlen]; omega), ew, er]
    have es : (((l.map cv115).take i ++ (List.replicate l.length z113).drop i).set (i : Int).toNat (cv115 l[i])) = (l.map cv115).take (i + 1) ++ (List.replicate l.length z113).drop (i + 1) := by
      have := set_step (l.map cv115) z113 i l.length (by simp) hi
      simpa using this
    have h := ih k (i + 1) (by omega) (by omega)
    rw [← es] at h
    exact h
theorem laws_toLegS_eq (l : List S115) (hl : l.length ≤ 2097152) {k : Nat} (hk : l.length < k) : laws_toLegS.f k l = some (l.map cv115) := by
  unfold laws_toLegS.f
  rw [if_pos (by omega), if_pos (by rw [Int.toNat_natCast]; omega)]
  have h := laws_toLegS_loop l (by omega) l.length k 0 (by omega) hk
  simpa using h

theorem laws_eqLeg_same (x : S113) : laws_eqLeg.f x.f0 x.f1 x.f2 x.f3 x.f4 x.f0 x.f1 x.f2 x.f3 x.f4 = some true := by unfold laws_eqLeg.f; simp
theorem laws_eqLegS_loop (l : List S113) (hl : l.length ≤ 140737488351232) (d : Nat) : ∀ (k i : Nat), i + d = l.length → d < k → laws_eqLegS.l0 k l l (i : Int) = some true := by
  induction d with
  | zero =>
    intro k i hd hk
    obtain ⟨k, rfl⟩ : ∃ m, k = m + 1 := ⟨k - 1, by omega⟩
    simp only [laws_eqLegS.l0]
    rw [if_neg (by omega)]
  | succ d ih =>
    intro k i hd hk
    obtain ⟨k, rfl⟩ : ∃ m, k = m + 1 := ⟨k - 1, by omega⟩
    have ew : wrap64 ((i : Int) + 1) = ((i + 1 : Nat) : Int) := (w64 (by omega) (by omega)).trans (by omega)
    simp only [laws_eqLegS.l0, laws_eqLeg_same, Option.bind_some, if_true]
    rw [if_pos (by omega), if_pos (by omega), if_pos (by omega), ew]
    exact ih k (i + 1) (by omega) (by omega)
theorem laws_eqLegS_eq (l : List S113) (hl : l.length ≤ 140737488351232) {k : Nat} (hk : l.length < k) : laws_eqLegS.f k l l = some true := by
  unfold laws_eqLegS.f
  rw [if_pos rfl]
  exact laws_eqLegS_loop l hl l.length k 0 (by omega) hk

theorem laws_markLegS_loop (d : Nat) : ∀ (k i : Nat) (x : Int) (l : List S113), i + d = l.length → l.length ≤ 140737488351232 → 0 ≤ x → x + 5 * d ≤ 4611686018427387904 → d < k → ∃ m l', laws_markLegS.l0 k l x (i : Int) = some (m, l') ∧ 0 ≤ m := by
  induction d with
  | zero =>
    intro k i x l hd hl hx _ hk
    obtain ⟨k, rfl⟩ : ∃ m, k = m + 1 := ⟨k - 1, by omega⟩
    refine ⟨x, l, ?_, hx⟩
    simp only [laws_markLegS.l0]
    rw [if_neg (by omega)]
  | succ d ih =>
    intro k i x l hd hl hx hb hk
    obtain ⟨k, rfl⟩ : ∃ m, k = m + 1 := ⟨k - 1, by omega⟩
    have ew : wrap64 ((i : Int) + 1) = ((i + 1 : Nat) : Int) := (w64 (by omega) (by omega)).trans (by omega)
    have c1 : (i : Int) < (l.length : Int) := by omega
    have c2 : 0 ≤ (i : Int) := by omega
    have e1 : wrap64 (x + 1) = x + 1 := (w64 (by omega) (by omega)).trans (by omega)
    have e2 : wrap64 (x + 1 + 1) = x + 2 := (w64 (by omega) (by omega)).trans (by omega)
    have e3 : wrap64 (x + 2 + 1) = x + 3 := (w64 (by omega) (by omega)).trans (by omega)
    have e4 : wrap64 (x + 3 + 1) = x + 4 := (w64 (by omega) (by omega)).trans (by omega)
    have e5 : wrap64 (x + 4 + 1) = x + 5 := (w64 (by omega) (by omega)).trans (by omega)
    simp only [laws_markLegS.l0, if_pos c1, if_pos c2, Option.bind_some, ew, e1, e2, e3, e4, e5]
    exact ih k (i + 1) _ _ (by simp; omega) (by simp; omega) (by omega) (by omega) (by omega)
theorem laws_markLegS_eq (l : List S113) (hl : l.length ≤ 2097152) {k : Nat} (hk : l.length < k) : ∃ m l', laws_markLegS.f k l 1 = some (m, l') ∧ 0 ≤ m :=
  laws_markLegS_loop l.length k 0 1 l (by omega) (by omega) (by omega) (by omega) hk

theorem FnExactLegsAt : Asked := by
  intro l a hl _ _
  by_cases hs : wrap64 (1048576 - (l.length : Int)) < 0
  · refine ⟨0, ?_⟩
    unfold laws_FnExactLegsAt.f laws_szLegS.f
    rw [if_pos hs]
    simp
  · rw [w64 (by omega) (by omega)] at hs
    have ht : ∀ k, l.length < k → laws_toLegS.f k l = some (l.map cv115) := fun k hk => laws_toLegS_eq l (by omega) hk
    have hlen : (l.map cv115).length = l.length := by simp
    obtain ⟨r, b, h, hr, _⟩ := legsAt_eq (l.map cv115) a (by rw [hlen]; omega)
    rw [hlen] at h hr
    obtain ⟨m, l', hm, hm0⟩ := laws_markLegS_eq (l.map cv115) (by rw [hlen]; omega) (k := l.length + 9) (by rw [hlen]; omega)
    have hmi : ∀ k, r.length < k → laws_markIntS.f k r 1 = some ((r.length : Int) + 1, marks r.length) := fun k hk => markInts_eq r (by omega) hk
    have hhe : ∀ k, r.length < k → laws_heldIntS.f k (marks r.length) 1 = some ((r.length : Int) + 1) := fun k hk => heldInts_eq r.length (by omega) hk
    have heq : ∀ k, r.length < k → laws_eqIntS.f k r r = some true := fun k hk => eqInts_eq r (by omega) hk
    refine ⟨l.length + 10, ?_⟩
    unfold laws_FnExactLegsAt.f laws_szLegS.f
    rw [w64 (by omega) (by omega), if_neg hs]
    simp only [Option.bind_some]
    rw [if_neg hs, ht _ (by omega)]
    simp only [Option.bind_some, (h (l.length + 10) (by omega)).1, (h (l.length + 10) (by omega)).2, heq _ (show r.length < l.length + 10 by omega), if_true]
    simp only [laws_FnExactLegsAt.j0, bne_self_eq_false, Bool.false_eq_true, if_false, ht _ (show l.length < l.length + 9 by omega), Option.bind_some, laws_eqLegS_eq (l.map cv115) (by rw [hlen]; omega) (show (l.map cv115).length < l.length + 9 by rw [hlen]; omega), if_true, hm]
    rw [if_neg (by omega), heq _ (show r.length < l.length + 9 by omega)]
    simp only [Option.bind_some, if_true, laws_FnExactLegsAt.j1, bne_self_eq_false, Bool.false_eq_true, if_false, hmi _ (show r.length < l.length + 8 by omega), hhe _ (show r.length < l.length + 8 by omega)]
    rw [if_neg (by omega)]
    simp only [ht _ (show l.length < l.length + 8 by omega), Option.bind_some, (h (l.length + 8) (by omega)).2, heq _ (show r.length < l.length + 8 by omega), if_true, laws_FnExactLegsAt.j2, bne_self_eq_false, Bool.false_eq_true, if_false, hhe _ (show r.length < l.length + 7 by omega)]
    rw [if_neg (by omega)]
end Go.Proofs.Ytpfmhoikhnhdcaa.Pure
