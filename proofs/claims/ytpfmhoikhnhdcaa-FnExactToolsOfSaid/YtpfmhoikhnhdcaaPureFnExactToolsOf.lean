/- The pure statement of the law of ToolsOf: true for every list of tools and every number; no condition but the slice's reach. -/
import Derived.Test.YtpfmhoikhnhdcaaAskFnExactToolsOf
namespace Go.Proofs.Ytpfmhoikhnhdcaa.Pure
open Go.RowKit Go.Proofs.Ytpfmhoikhnhdcaa.PFnExactToolsOf Go.Proofs.Ytpfmhoikhnhdcaa.AskFnExactToolsOf Go.Proofs.YtpfmhoikhnhdcaaW.PrintWords Go.Proofs.YtpfmhoikhnhdcaaW.PrintLast
set_option linter.unusedVariables false
set_option linter.unusedSimpArgs false

theorem l1In_eq (a b c : Int) : spec_l1In.f a b c = some (decide (b ≤ a ∧ a ≤ c)) := by
  unfold spec_l1In.f
  by_cases h : a ≥ b
  · rw [if_pos h]
    have h' : b ≤ a := h
    simp [h']
  · rw [if_neg h]
    have h' : ¬ b ≤ a := h
    simp [h']

theorem beqd (a b : Int) : (a == b) = decide (a = b) := by by_cases h : a = b <;> simp [h]

def vTool (i kd z s : Int) : Bool := decide ((1 ≤ i ∧ i ≤ 99) ∧ (0 ≤ kd ∧ kd ≤ 2) ∧ (-50 ≤ z ∧ z ≤ 50) ∧ (900 ≤ s ∧ s ≤ 1100) ∧ (kd = 0 ∨ s = 1000))
theorem vTool_true {i kd z s : Int} (h : vTool i kd z s = true) : (1 ≤ i ∧ i ≤ 99) ∧ (0 ≤ kd ∧ kd ≤ 2) ∧ (-50 ≤ z ∧ z ≤ 50) ∧ (900 ≤ s ∧ s ≤ 1100) ∧ (kd = 0 ∨ s = 1000) := of_decide_eq_true h

theorem l3One_eq (i kd z s : Int) : spec_l3One.f i kd z s = some (vTool i kd z s) := by
  unfold spec_l3One.f spec_l3Kind.f vTool
  simp only [l1In_eq, Option.bind_some, decide_eq_true_eq, beqd]
  repeat' split
  all_goals first | exact congrArg some (decide_eq_decide.mpr (by omega)) | exact congrArg some (decide_eq_false (by omega)).symm | exact congrArg some (decide_eq_true (by omega)).symm

theorem within_eq (a b c : Int) : impl_within.f a b c = some (decide (b ≤ a ∧ a ≤ c)) := by
  unfold impl_within.f
  by_cases h : a ≥ b
  · rw [if_pos h]
    have h' : b ≤ a := h
    simp [h']
  · rw [if_neg h]
    have h' : ¬ b ≤ a := h
    simp [h']

theorem isTool_eq {k : Nat} (hk : 1 ≤ k) (i kd z s : Int) : impl_IsTool.f k i kd z s = some (vTool i kd z s) := by
  obtain ⟨k, rfl⟩ : ∃ m, k = m + 1 := ⟨k - 1, by omega⟩
  unfold impl_IsTool.f impl_isId.f impl_isKind.f vTool
  simp only [impl_IsTool.j0, within_eq, Option.bind_some, decide_eq_true_eq, beqd, Bool.not_eq_true', decide_eq_false_iff_not, if_true]
  repeat' split
  all_goals first | exact congrArg some (decide_eq_decide.mpr (by omega)) | exact congrArg some (decide_eq_false (by omega)).symm | exact congrArg some (decide_eq_true (by omega)).symm

theorem w64 {x : Int} (h0 : -9223372036854775808 ≤ x) (h1 : x ≤ 9223372036854775807) : wrap64 x = x := by
  unfold wrap64
  omega

/-- What AreTools asks from place i on. -/
def goodFrom (l : List S44) (i : Nat) : Prop := ∀ j, i ≤ j → j < l.length → vTool (l.getD j z44).f0 (l.getD j z44).f1 (l.getD j z44).f2 (l.getD j z44).f3 = true ∧ (0 < j → (l.getD (j - 1) z44).f0 < (l.getD j z44).f0)
theorem goodFrom_step {l : List S44} {i : Nat} (h : vTool (l.getD i z44).f0 (l.getD i z44).f1 (l.getD i z44).f2 (l.getD i z44).f3 = true) (h' : 0 < i → (l.getD (i - 1) z44).f0 < (l.getD i z44).f0) : goodFrom l (i + 1) ↔ goodFrom l i := by
  refine ⟨fun g j h1 h2 => ?_, fun g j h1 h2 => g j (by omega) h2⟩
  rcases Nat.eq_or_lt_of_le h1 with rfl | hlt
  · exact ⟨h, h'⟩
  · exact g j hlt h2
theorem good_loops (l : List S44) (hl : l.length ≤ 140737488351232) (d : Nat) : ∀ (k i : Nat), i + d = l.length → d + 1 < k →
    ∃ b : Bool, spec_l3Good.l0 k l (i : Int) = some b ∧ impl_AreTools.l0 k l l (l.length : Int) (i : Int) = some b ∧ (b = true ↔ goodFrom l i ∧ l.length ≤ 8) := by
  induction d with
  | zero =>
    intro k i hd hk
    obtain ⟨k, rfl⟩ : ∃ m, k = m + 1 := ⟨k - 1, by omega⟩
    refine ⟨decide ((l.length : Int) ≤ 8), ?_, ?_, ?_⟩
    · simp only [spec_l3Good.l0]; rw [if_neg (by omega)]
    · simp only [impl_AreTools.l0]; rw [if_neg (by omega)]
    · rw [decide_eq_true_eq]
      exact ⟨fun h => ⟨fun j h1 h2 => by omega, by omega⟩, fun h => by have := h.2; omega⟩
  | succ d ih =>
    intro k i hd hk
    obtain ⟨k, rfl⟩ : ∃ m, k = m + 1 := ⟨k - 1, by omega⟩
    have hi : i < l.length := by omega
    have ew : wrap64 ((i : Int) + 1) = ((i + 1 : Nat) : Int) := (w64 (by omega) (by omega)).trans (by omega)
    have er : rd_T44 l (i : Int) = l.getD i z44 := by simp [rd_T44]
    obtain ⟨b, e1, e2, hb⟩ := ih k (i + 1) (by omega) (by omega)
    simp only [spec_l3Good.l0, impl_AreTools.l0]
    have c1 : (i : Int) < (l.length : Int) := by omega
    have c2 : 0 ≤ (i : Int) := by omega
    simp only [if_pos c1, if_pos c2, er, l3One_eq, isTool_eq (show 1 ≤ k by omega), ew, Option.bind_some]
    cases hv : vTool (l.getD i z44).f0 (l.getD i z44).f1 (l.getD i z44).f2 (l.getD i z44).f3 with
    | false =>
      refine ⟨false, by simp, by simp, ?_⟩
      simp only [Bool.false_eq_true, false_iff]
      intro h
      have := (h.1 i (Nat.le_refl _) hi).1
      rw [hv] at this
      cases this
    | true =>
      simp only [if_true]
      by_cases h0 : (i : Int) > 0
      · have ew' : wrap64 ((i : Int) - 1) = ((i - 1 : Nat) : Int) := (w64 (by omega) (by omega)).trans (by omega)
        have er' : rd_T44 l ((i - 1 : Nat) : Int) = l.getD (i - 1) z44 := by simp [rd_T44]
        have c3 : 0 ≤ ((i - 1 : Nat) : Int) := by omega
        have c4 : ((i - 1 : Nat) : Int) < (l.length : Int) := by omega
        simp only [if_pos h0, ew', if_pos c3, if_pos c4, er']
        by_cases c : (l.getD (i - 1) z44).f0 ≥ (l.getD i z44).f0
        · simp only [if_pos c]
          refine ⟨false, rfl, rfl, ?_⟩
          simp only [Bool.false_eq_true, false_iff]
          intro h
          have := (h.1 i (Nat.le_refl _) hi).2 (by omega)
          omega
        · simp only [if_neg c]
          exact ⟨b, e1, e2, hb.trans (and_congr_left fun _ => goodFrom_step hv (fun _ => by omega))⟩
      · simp only [if_neg h0]
        exact ⟨b, e1, e2, hb.trans (and_congr_left fun _ => goodFrom_step hv (fun h => by omega))⟩

theorem good_eq (l : List S44) (hl : l.length ≤ 140737488351232) : ∃ b : Bool, (∀ k, l.length + 1 < k → spec_l3Good.f k l = some b ∧ impl_AreTools.f k l = some b) ∧ (b = true ↔ goodFrom l 0 ∧ l.length ≤ 8) := by
  obtain ⟨b, _, _, hb⟩ := good_loops l hl l.length (l.length + 2) 0 (by omega) (by omega)
  refine ⟨b, fun k hk => ?_, hb⟩
  obtain ⟨b', e1, e2, hb'⟩ := good_loops l hl l.length k 0 (by omega) hk
  have : b' = b := by rw [Bool.eq_iff_iff]; exact hb'.trans hb.symm
  subst this
  exact ⟨e1, e2⟩

/-- The ids of a kind. -/
def idsOfKind (l : List S44) (kd : Int) : List Int := (l.filter fun x => x.f1 = kd).map (·.f0)
theorem toolsOf_loops (l : List S44) (kd : Int) (hl : l.length ≤ 2097152) : ∀ (xs : List S44) (k n : Nat) (o : List Int), l.drop n = xs → o.length ≤ n → xs.length < k →
    spec_ToolsOf.l0 k l kd o (n : Int) = some (o ++ idsOfKind xs kd, true) ∧ impl_ToolsOf.l0 k kd o l (l.length : Int) (n : Int) = some (o ++ idsOfKind xs kd, true)
  | [], k, n, o, hx, ho, hk => by
    obtain ⟨k, rfl⟩ : ∃ m, k = m + 1 := ⟨k - 1, by omega⟩
    have hn : l.length ≤ n := List.drop_eq_nil_iff.mp hx
    simp only [spec_ToolsOf.l0, impl_ToolsOf.l0, idsOfKind]
    rw [if_neg (by omega), if_neg (by omega)]
    simp
  | x :: xs, k, n, o, hx, ho, hk => by
    obtain ⟨k, rfl⟩ : ∃ m, k = m + 1 := ⟨k - 1, by omega⟩
    have hn : n < l.length := by
      have := congrArg List.length hx
      simp at this
      omega
    have hd := List.drop_eq_getElem_cons hn
    rw [hx] at hd
    obtain ⟨h1, h2⟩ := List.cons.inj hd
    have ew : wrap64 ((n : Int) + 1) = ((n + 1 : Nat) : Int) := (w64 (by omega) (by omega)).trans (by omega)
    have er : rd_T44 l (n : Int) = x := by simp [rd_T44, hn, h1]
    have c1 : (n : Int) < (l.length : Int) := by omega
    have c2 : 0 ≤ (n : Int) := by omega
    have c3 : o.length < 17592186044416 := by omega
    have hk' : xs.length < k := by simp at hk; omega
    simp only [spec_ToolsOf.l0, impl_ToolsOf.l0, if_pos c1, if_pos c2, if_pos c3, er, ew]
    by_cases c : x.f1 = kd
    · have ih := toolsOf_loops l kd hl xs k (n + 1) (o ++ [x.f0]) h2.symm (by simp; omega) hk'
      have e : o ++ idsOfKind (x :: xs) kd = o ++ [x.f0] ++ idsOfKind xs kd := by simp [idsOfKind, c]
      rw [e, if_pos c, if_pos c]
      exact ih
    · have ih := toolsOf_loops l kd hl xs k (n + 1) o h2.symm (by omega) hk'
      have e : o ++ idsOfKind (x :: xs) kd = o ++ idsOfKind xs kd := by simp [idsOfKind, c]
      rw [e, if_neg c, if_neg c]
      exact ih
theorem ids_len (l : List S44) (kd : Int) : (idsOfKind l kd).length ≤ l.length := by
  unfold idsOfKind
  rw [List.length_map]
  exact List.length_filter_le _ _
theorem toolsOf_eq (l : List S44) (kd : Int) (hl : l.length ≤ 2097152) : ∃ r b, (∀ k, l.length + 2 < k → spec_ToolsOf.f k l kd = some (r, b) ∧ impl_ToolsOf.f k l kd = some (r, b)) ∧ r.length ≤ l.length ∧
    ((goodFrom l 0 ∧ l.length ≤ 8) → 0 ≤ kd → kd ≤ 2 → b = true ∧ r = idsOfKind l kd) := by
  obtain ⟨g, hg, hiff⟩ := good_eq l (by omega)
  unfold spec_ToolsOf.f impl_ToolsOf.f spec_l3Kind.f impl_isKind.f
  by_cases hk : g = true ∧ 0 ≤ kd ∧ kd ≤ 2
  · obtain ⟨rfl, h0, h2⟩ := hk
    refine ⟨idsOfKind l kd, true, fun k hk => ?_, ids_len l kd, fun _ _ _ => ⟨rfl, rfl⟩⟩
    obtain ⟨k, rfl⟩ : ∃ m, k = m + 1 := ⟨k - 1, by omega⟩
    obtain ⟨e1, e2⟩ := hg (k + 1) (by omega)
    have hlo := toolsOf_loops l kd hl l k 0 [] rfl (by simp) (by omega)
    rw [e1, e2]
    simp only [Option.bind_some, if_true, l1In_eq, within_eq, h0, h2, and_self, decide_true, Bool.not_true, spec_ToolsOf.j0, impl_ToolsOf.j0, Bool.false_eq_true, if_false]
    simpa using hlo
  · refine ⟨[], false, fun k hk' => ?_, by simp, fun hh a b => absurd ⟨hiff.mpr hh, a, b⟩ hk⟩
    obtain ⟨k, rfl⟩ : ∃ m, k = m + 1 := ⟨k - 1, by omega⟩
    obtain ⟨e1, e2⟩ := hg (k + 1) (by omega)
    rw [e1, e2]
    simp only [Option.bind_some, l1In_eq, within_eq]
    cases g with
    | false => simp [spec_ToolsOf.j0, impl_ToolsOf.j0]
    | true =>
      have hn : ¬ (0 ≤ kd ∧ kd ≤ 2) := fun h => hk ⟨rfl, h⟩
      simp [hn, spec_ToolsOf.j0, impl_ToolsOf.j0]

theorem set_step {α : Type} (m : List α) (z : α) (i n : Nat) (hm : m.length = n) (hi : i < n) :
    (m.take i ++ (List.replicate n z).drop i).set i (m[i]'(by omega)) = m.take (i + 1) ++ (List.replicate n z).drop (i + 1) := by
  have e1 : (List.replicate n z).drop i = z :: (List.replicate n z).drop (i + 1) := by
    rw [List.drop_eq_getElem_cons (by simpa using hi)]
    simp
  have e2 : (m.take i).length = i := by simp; omega
  rw [List.set_append_right _ _ (by omega), e2, Nat.sub_self, e1, List.set_cons_zero, List.take_succ_eq_append_getElem (by omega), List.append_assoc]
  rfl

theorem set_to {α : Type} (m r : List α) (i n : Nat) (hm : m.length = n) (hr : r.length = n) (hi : i < n) :
    (m.take i ++ r.drop i).set i (m[i]'(by omega)) = m.take (i + 1) ++ r.drop (i + 1) := by
  have e1 : r.drop i = r[i]'(by omega) :: r.drop (i + 1) := List.drop_eq_getElem_cons (by omega)
  have e2 : (m.take i).length = i := by simp; omega
  rw [List.set_append_right _ _ (by omega), e2, Nat.sub_self, e1, List.set_cons_zero, List.take_succ_eq_append_getElem (by omega), List.append_assoc]
  rfl
theorem eqInts_loop (l : List Int) (hl : l.length ≤ 140737488351232) (d : Nat) : ∀ (k i : Nat), i + d = l.length → d < k → laws_eqIntS.l0 k l l (i : Int) = some true := by
  induction d with
  | zero =>
    intro k i hd hk
    obtain ⟨k, rfl⟩ : ∃ m, k = m + 1 := ⟨k - 1, by omega⟩
    simp only [laws_eqIntS.l0]
    rw [if_neg (by omega)]
  | succ d ih =>
    intro k i hd hk
    obtain ⟨k, rfl⟩ : ∃ m, k = m + 1 := ⟨k - 1, by omega⟩
    have ew : wrap64 ((i : Int) + 1) = ((i + 1 : Nat) : Int) := (w64 (by omega) (by omega)).trans (by omega)
    have c1 : (i : Int) < (l.length : Int) := by omega
    have c2 : 0 ≤ (i : Int) := by omega
    simp only [laws_eqIntS.l0, if_pos c1, if_pos c2, if_true, ew]
    exact ih k (i + 1) (by omega) (by omega)
theorem eqInts_eq (l : List Int) (hl : l.length ≤ 140737488351232) {k : Nat} (hk : l.length < k) : laws_eqIntS.f k l l = some true := by
  unfold laws_eqIntS.f
  rw [if_pos rfl]
  exact eqInts_loop l hl l.length k 0 (by omega) hk
/-- 1, 2, .. -/
def marks (n : Nat) : List Int := (List.range n).map fun (j : Nat) => (j : Int) + 1
theorem marks_len (n : Nat) : (marks n).length = n := by simp [marks]
theorem marks_get (n i : Nat) (h : i < (marks n).length) : (marks n)[i] = (i : Int) + 1 := by simp [marks]
theorem markInts_loop (r : List Int) (hl : r.length ≤ 140737488351232) (d : Nat) : ∀ (k i : Nat), i + d = r.length → d < k →
    laws_markIntS.l0 k ((marks r.length).take i ++ r.drop i) ((i : Int) + 1) (i : Int) = some ((r.length : Int) + 1, marks r.length) := by
  induction d with
  | zero =>
    intro k i hd hk
    obtain ⟨k, rfl⟩ : ∃ m, k = m + 1 := ⟨k - 1, by omega⟩
    have e : i = r.length := by omega
    subst e
    have el : ((marks r.length).take r.length ++ r.drop r.length).length = r.length := by simp [marks_len]
    simp only [laws_markIntS.l0, el]
    rw [if_neg (by omega), List.take_of_length_le (by simp [marks_len]), List.drop_of_length_le (by simp), List.append_nil]
  | succ d ih =>
    intro k i hd hk
    obtain ⟨k, rfl⟩ : ∃ m, k = m + 1 := ⟨k - 1, by omega⟩
    have ew : wrap64 ((i : Int) + 1) = ((i + 1 : Nat) : Int) := (w64 (by omega) (by omega)).trans (by omega)
    have ew2 : wrap64 ((i : Int) + 1 + 1) = ((i + 1 : Nat) : Int) + 1 := (w64 (by omega) (by omega)).trans (by omega)
    have el : ((marks r.length).take i ++ r.drop i).length = r.length := by simp [marks_len]; omega
    have c1 : (i : Int) < (r.length : Int) := by omega
    have c2 : 0 ≤ (i : Int) := by omega
    have es := set_to (marks r.length) r i r.length (marks_len _) rfl (by omega)
    rw [marks_get] at es
    simp only [laws_markIntS.l0, el, if_pos c1, if_pos c2, ew, ew2, Int.toNat_natCast, es]
    exact ih k (i + 1) (by omega) (by omega)
theorem markInts_eq (r : List Int) (hl : r.length ≤ 140737488351232) {k : Nat} (hk : r.length < k) : laws_markIntS.f k r 1 = some ((r.length : Int) + 1, marks r.length) := by
  have h := markInts_loop r hl r.length k 0 (by omega) hk
  unfold laws_markIntS.f
  simpa using h
theorem heldInts_loop (n : Nat) (hl : n ≤ 140737488351232) (d : Nat) : ∀ (k i : Nat), i + d = n → d < k → laws_heldIntS.l0 k (marks n) ((i : Int) + 1) (i : Int) = some ((n : Int) + 1) := by
  induction d with
  | zero =>
    intro k i hd hk
    obtain ⟨k, rfl⟩ : ∃ m, k = m + 1 := ⟨k - 1, by omega⟩
    simp only [laws_heldIntS.l0, marks_len]
    rw [if_neg (by omega)]
    exact congrArg some (by omega)
  | succ d ih =>
    intro k i hd hk
    obtain ⟨k, rfl⟩ : ∃ m, k = m + 1 := ⟨k - 1, by omega⟩
    have ew : wrap64 ((i : Int) + 1) = ((i + 1 : Nat) : Int) := (w64 (by omega) (by omega)).trans (by omega)
    have ew2 : wrap64 ((i : Int) + 1 + 1) = ((i + 1 : Nat) : Int) + 1 := (w64 (by omega) (by omega)).trans (by omega)
    have c1 : (i : Int) < (n : Int) := by omega
    have c2 : 0 ≤ (i : Int) := by omega
    have hr : rd (marks n) (i : Int) = (i : Int) + 1 := by
      unfold rd
      rw [Int.toNat_natCast, List.getD_eq_getElem?_getD, List.getElem?_eq_getElem (by rw [marks_len]; omega), Option.getD_some, marks_get]
    simp only [laws_heldIntS.l0, marks_len, if_pos c1, if_pos c2, hr, if_true, ew, ew2]
    exact ih k (i + 1) (by omega) (by omega)
theorem heldInts_eq (n : Nat) (hl : n ≤ 140737488351232) {k : Nat} (hk : n < k) : laws_heldIntS.f k (marks n) 1 = some ((n : Int) + 1) := by
  have h := heldInts_loop n hl n k 0 (by omega) hk
  unfold laws_heldIntS.f
  simpa using h

/-- The conversion of a struct, field by field. -/
def cv39 (x : S39) : S44 := ⟨x.f0, x.f1, x.f2, x.f3⟩
theorem laws_toToolS_loop (l : List S39) (hl : l.length ≤ 140737488351232) (d : Nat) : ∀ (k i : Nat), i + d = l.length → d < k →
    laws_toToolS.l0 k l ((l.map cv39).take i ++ (List.replicate l.length z44).drop i) (i : Int) = some (l.map cv39) := by
  induction d with
  | zero =>
    intro k i hd hk
    obtain ⟨k, rfl⟩ : ∃ m, k = m + 1 := ⟨k - 1, by omega⟩
    simp only [laws_toToolS.l0]
    rw [if_neg (by omega)]
    have e : i = l.length := by omega
    subst e
    rw [List.take_of_length_le (by simp), List.drop_of_length_le (by simp), List.append_nil]
  | succ d ih =>
    intro k i hd hk
    obtain ⟨k, rfl⟩ : ∃ m, k = m + 1 := ⟨k - 1, by omega⟩
    have hi : i < l.length := by omega
    have hlen : ((l.map cv39).take i ++ (List.replicate l.length z44).drop i).length = l.length := by simp; omega
    have ew : wrap64 ((i : Int) + 1) = ((i + 1 : Nat) : Int) := (w64 (by omega) (by omega)).trans (by omega)
    have er : rd_T39 l (i : Int) = l[i] := by simp [rd_T39, hi]
    simp only [laws_toToolS.l0, laws_toTool.f, Option.bind_some]
    rw [if_pos (by omega), if_pos (by omega), if_pos (by rw [hlen]; omega), ew, er]
    have es : (((l.map cv39).take i ++ (List.replicate l.length z44).drop i).set (i : Int).toNat (cv39 l[i])) = (l.map cv39).take (i + 1) ++ (List.replicate l.length z44).drop (i + 1) := by
      have := set_step (l.map cv39) z44 i l.length (by simp) hi
      simpa using this
    have h := ih k (i + 1) (by omega) (by omega)
    rw [← es] at h
    exact h
theorem laws_toToolS_eq (l : List S39) (hl : l.length ≤ 2097152) {k : Nat} (hk : l.length < k) : laws_toToolS.f k l = some (l.map cv39) := by
  unfold laws_toToolS.f
  rw [if_pos (by omega), if_pos (by rw [Int.toNat_natCast]; omega)]
  have h := laws_toToolS_loop l (by omega) l.length k 0 (by omega) hk
  simpa using h

theorem laws_eqTool_same (x : S44) : laws_eqTool.f x.f0 x.f1 x.f2 x.f3 x.f0 x.f1 x.f2 x.f3 = some true := by unfold laws_eqTool.f; simp
theorem laws_eqToolS_loop (l : List S44) (hl : l.length ≤ 140737488351232) (d : Nat) : ∀ (k i : Nat), i + d = l.length → d < k → laws_eqToolS.l0 k l l (i : Int) = some true := by
  induction d with
  | zero =>
    intro k i hd hk
    obtain ⟨k, rfl⟩ : ∃ m, k = m + 1 := ⟨k - 1, by omega⟩
    simp only [laws_eqToolS.l0]
    rw [if_neg (by omega)]
  | succ d ih =>
    intro k i hd hk
    obtain ⟨k, rfl⟩ : ∃ m, k = m + 1 := ⟨k - 1, by omega⟩
    have ew : wrap64 ((i : Int) + 1) = ((i + 1 : Nat) : Int) := (w64 (by omega) (by omega)).trans (by omega)
    simp only [laws_eqToolS.l0, laws_eqTool_same, Option.bind_some, if_true]
    rw [if_pos (by omega), if_pos (by omega), if_pos (by omega), ew]
    exact ih k (i + 1) (by omega) (by omega)
theorem laws_eqToolS_eq (l : List S44) (hl : l.length ≤ 140737488351232) {k : Nat} (hk : l.length < k) : laws_eqToolS.f k l l = some true := by
  unfold laws_eqToolS.f
  rw [if_pos rfl]
  exact laws_eqToolS_loop l hl l.length k 0 (by omega) hk

theorem laws_markToolS_loop (d : Nat) : ∀ (k i : Nat) (x : Int) (l : List S44), i + d = l.length → l.length ≤ 140737488351232 → 0 ≤ x → x + 4 * d ≤ 4611686018427387904 → d < k → ∃ m l', laws_markToolS.l0 k l x (i : Int) = some (m, l') ∧ 0 ≤ m := by
  induction d with
  | zero =>
    intro k i x l hd hl hx _ hk
    obtain ⟨k, rfl⟩ : ∃ m, k = m + 1 := ⟨k - 1, by omega⟩
    refine ⟨x, l, ?_, hx⟩
    simp only [laws_markToolS.l0]
    rw [if_neg (by omega)]
  | succ d ih =>
    intro k i x l hd hl hx hb hk
    obtain ⟨k, rfl⟩ : ∃ m, k = m + 1 := ⟨k - 1, by omega⟩
    have ew : wrap64 ((i : Int) + 1) = ((i + 1 : Nat) : Int) := (w64 (by omega) (by omega)).trans (by omega)
    have c1 : (i : Int) < (l.length : Int) := by omega
    have c2 : 0 ≤ (i : Int) := by omega
    have e1 : wrap64 (x + 1) = x + 1 := (w64 (by omega) (by omega)).trans (by omega)
    have e2 : wrap64 (x + 1 + 1) = x + 2 := (w64 (by omega) (by omega)).trans (by omega)
    have e3 : wrap64 (x + 2 + 1) = x + 3 := (w64 (by omega) (by omega)).trans (by omega)
    have e4 : wrap64 (x + 3 + 1) = x + 4 := (w64 (by omega) (by omega)).trans (by omega)
    simp only [laws_markToolS.l0, if_pos c1, if_pos c2, Option.bind_some, ew, e1, e2, e3, e4]
    exact ih k (i + 1) _ _ (by simp; omega) (by simp; omega) (by omega) (by omega) (by omega)
theorem laws_markToolS_eq (l : List S44) (hl : l.length ≤ 2097152) {k : Nat} (hk : l.length < k) : ∃ m l', laws_markToolS.f k l 1 = some (m, l') ∧ 0 ≤ m :=
  laws_markToolS_loop l.length k 0 1 l (by omega) (by omega) (by omega) (by omega) hk

theorem FnExactToolsOf : Asked := by
  intro l a hl _ _
  by_cases hs : wrap64 (1048576 - (l.length : Int)) < 0
  · refine ⟨0, ?_⟩
    unfold laws_FnExactToolsOf.f laws_szToolS.f
    rw [if_pos hs]
    simp
  · rw [w64 (by omega) (by omega)] at hs
    have ht : ∀ k, l.length < k → laws_toToolS.f k l = some (l.map cv39) := fun k hk => laws_toToolS_eq l (by omega) hk
    have hlen : (l.map cv39).length = l.length := by simp
    obtain ⟨r, b, h, hr, _⟩ := toolsOf_eq (l.map cv39) a (by rw [hlen]; omega)
    rw [hlen] at h hr
    obtain ⟨m, l', hm, hm0⟩ := laws_markToolS_eq (l.map cv39) (by rw [hlen]; omega) (k := l.length + 9) (by rw [hlen]; omega)
    have hmi : ∀ k, r.length < k → laws_markIntS.f k r 1 = some ((r.length : Int) + 1, marks r.length) := fun k hk => markInts_eq r (by omega) hk
    have hhe : ∀ k, r.length < k → laws_heldIntS.f k (marks r.length) 1 = some ((r.length : Int) + 1) := fun k hk => heldInts_eq r.length (by omega) hk
    have heq : ∀ k, r.length < k → laws_eqIntS.f k r r = some true := fun k hk => eqInts_eq r (by omega) hk
    refine ⟨l.length + 10, ?_⟩
    unfold laws_FnExactToolsOf.f laws_szToolS.f
    rw [w64 (by omega) (by omega), if_neg hs]
    simp only [Option.bind_some]
    rw [if_neg hs, ht _ (by omega)]
    simp only [Option.bind_some, (h (l.length + 10) (by omega)).1, (h (l.length + 10) (by omega)).2, heq _ (show r.length < l.length + 10 by omega), if_true]
    simp only [laws_FnExactToolsOf.j0, bne_self_eq_false, Bool.false_eq_true, if_false, ht _ (show l.length < l.length + 9 by omega), Option.bind_some, laws_eqToolS_eq (l.map cv39) (by rw [hlen]; omega) (show (l.map cv39).length < l.length + 9 by rw [hlen]; omega), if_true, hm]
    rw [if_neg (by omega), heq _ (show r.length < l.length + 9 by omega)]
    simp only [Option.bind_some, if_true, laws_FnExactToolsOf.j1, bne_self_eq_false, Bool.false_eq_true, if_false, hmi _ (show r.length < l.length + 8 by omega), hhe _ (show r.length < l.length + 8 by omega)]
    rw [if_neg (by omega)]
    simp only [ht _ (show l.length < l.length + 8 by omega), Option.bind_some, (h (l.length + 8) (by omega)).2, heq _ (show r.length < l.length + 8 by omega), if_true, laws_FnExactToolsOf.j2, bne_self_eq_false, Bool.false_eq_true, if_false, hhe _ (show r.length < l.length + 7 by omega)]
    rw [if_neg (by omega)]
end Go.Proofs.Ytpfmhoikhnhdcaa.Pure
