/- The pure statement of the law of AreTools: true for every list of tools; no condition but the slice's reach. -/
import Derived.Test.YtldbeelhmplmcaaAskFnExactAreTools
namespace Go.Proofs.Ytldbeelhmplmcaa.Pure
open Go.RowKit Go.Proofs.Ytldbeelhmplmcaa.PFnExactAreTools Go.Proofs.Ytldbeelhmplmcaa.AskFnExactAreTools Go.Proofs.YtldbeelhmplmcaaW.PrintWords Go.Proofs.YtldbeelhmplmcaaW.PrintLast
set_option linter.unusedVariables false
set_option linter.unusedSimpArgs false

theorem l1In_eq (a b c : Int) : spec_l1In.f a b c = some (decide (b ≤ a ∧ a ≤ c)) := by
  unfold spec_l1In.f
  by_cases h : a ≥ b
  · rw [if_pos h]
    have h' : b ≤ a := h
    simp [h']
  · rw [if_neg h]
    have h' : ¬ b ≤ a := h
    simp [h']

theorem beqd (a b : Int) : (a == b) = decide (a = b) := by by_cases h : a = b <;> simp [h]

def vTool (i kd z s : Int) : Bool := decide ((1 ≤ i ∧ i ≤ 99) ∧ (0 ≤ kd ∧ kd ≤ 2) ∧ (-50 ≤ z ∧ z ≤ 50) ∧ (900 ≤ s ∧ s ≤ 1100) ∧ (kd = 0 ∨ s = 1000))
theorem vTool_true {i kd z s : Int} (h : vTool i kd z s = true) : (1 ≤ i ∧ i ≤ 99) ∧ (0 ≤ kd ∧ kd ≤ 2) ∧ (-50 ≤ z ∧ z ≤ 50) ∧ (900 ≤ s ∧ s ≤ 1100) ∧ (kd = 0 ∨ s = 1000) := of_decide_eq_true h

theorem l3One_eq (i kd z s : Int) : spec_l3One.f i kd z s = some (vTool i kd z s) := by
  unfold spec_l3One.f spec_l3Kind.f vTool
  simp only [l1In_eq, Option.bind_some, decide_eq_true_eq, beqd]
  repeat' split
  all_goals first | exact congrArg some (decide_eq_decide.mpr (by omega)) | exact congrArg some (decide_eq_false (by omega)).symm | exact congrArg some (decide_eq_true (by omega)).symm

theorem within_eq (a b c : Int) : impl_within.f a b c = some (decide (b ≤ a ∧ a ≤ c)) := by
  unfold impl_within.f
  by_cases h : a ≥ b
  · rw [if_pos h]
    have h' : b ≤ a := h
    simp [h']
  · rw [if_neg h]
    have h' : ¬ b ≤ a := h
    simp [h']

theorem isTool_eq {k : Nat} (hk : 1 ≤ k) (i kd z s : Int) : impl_IsTool.f k i kd z s = some (vTool i kd z s) := by
  obtain ⟨k, rfl⟩ : ∃ m, k = m + 1 := ⟨k - 1, by omega⟩
  unfold impl_IsTool.f impl_isId.f impl_isKind.f vTool
  simp only [impl_IsTool.j0, within_eq, Option.bind_some, decide_eq_true_eq, beqd, Bool.not_eq_true', decide_eq_false_iff_not, if_true]
  repeat' split
  all_goals first | exact congrArg some (decide_eq_decide.mpr (by omega)) | exact congrArg some (decide_eq_false (by omega)).symm | exact congrArg some (decide_eq_true (by omega)).symm

theorem w64 {x : Int} (h0 : -9223372036854775808 ≤ x) (h1 : x ≤ 9223372036854775807) : wrap64 x = x := by
  unfold wrap64
  omega

/-- What AreTools asks from place i on. -/
def goodFrom (l : List S40) (i : Nat) : Prop := ∀ j, i ≤ j → j < l.length → vTool (l.getD j z40).f0 (l.getD j z40).f1 (l.getD j z40).f2 (l.getD j z40).f3 = true ∧ (0 < j → (l.getD (j - 1) z40).f0 < (l.getD j z40).f0)
theorem goodFrom_step {l : List S40} {i : Nat} (h : vTool (l.getD i z40).f0 (l.getD i z40).f1 (l.getD i z40).f2 (l.getD i z40).f3 = true) (h' : 0 < i → (l.getD (i - 1) z40).f0 < (l.getD i z40).f0) : goodFrom l (i + 1) ↔ goodFrom l i := by
  refine ⟨fun g j h1 h2 => ?_, fun g j h1 h2 => g j (by omega) h2⟩
  rcases Nat.eq_or_lt_of_le h1 with rfl | hlt
  · exact ⟨h, h'⟩
  · exact g j hlt h2
theorem good_loops (l : List S40) (hl : l.length ≤ 140737488351232) (d : Nat) : ∀ (k i : Nat), i + d = l.length → d + 1 < k →
    ∃ b : Bool, spec_l3Good.l0 k l (i : Int) = some b ∧ impl_AreTools.l0 k l l (l.length : Int) (i : Int) = some b ∧ (b = true ↔ goodFrom l i ∧ l.length ≤ 8) := by
  induction d with
  | zero =>
    intro k i hd hk
    obtain ⟨k, rfl⟩ : ∃ m, k = m + 1 := ⟨k - 1, by omega⟩
    refine ⟨decide ((l.length : Int) ≤ 8), ?_, ?_, ?_⟩
    · simp only [spec_l3Good.l0]; rw [if_neg (by omega)]
    · simp only [impl_AreTools.l0]; rw [if_neg (by omega)]
    · rw [decide_eq_true_eq]
      exact ⟨fun h => ⟨fun j h1 h2 => by omega, by omega⟩, fun h => by have := h.2; omega⟩
  | succ d ih =>
    intro k i hd hk
    obtain ⟨k, rfl⟩ : ∃ m, k = m + 1 := ⟨k - 1, by omega⟩
    have hi : i < l.length := by omega
    have ew : wrap64 ((i : Int) + 1) = ((i + 1 : Nat) : Int) := (w64 (by omega) (by omega)).trans (by omega)
    have er : rd_T40 l (i : Int) = l.getD i z40 := by simp [rd_T40]
    obtain ⟨b, e1, e2, hb⟩ := ih k (i + 1) (by omega) (by omega)
    simp only [spec_l3Good.l0, impl_AreTools.l0]
    have c1 : (i : Int) < (l.length : Int) := by omega
    have c2 : 0 ≤ (i : Int) := by omega
    simp only [if_pos c1, if_pos c2, er, l3One_eq, isTool_eq (show 1 ≤ k by omega), ew, Option.bind_some]
    cases hv : vTool (l.getD i z40).f0 (l.getD i z40).f1 (l.getD i z40).f2 (l.getD i z40).f3 with
    | false =>
      refine ⟨false, by simp, by simp, ?_⟩
      simp only [Bool.false_eq_true, false_iff]
      intro h
      have := (h.1 i (Nat.le_refl _) hi).1
      rw [hv] at this
      cases this
    | true =>
      simp only [if_true]
      by_cases h0 : (i : Int) > 0
      · have ew' : wrap64 ((i : Int) - 1) = ((i - 1 : Nat) : Int) := (w64 (by omega) (by omega)).trans (by omega)
        have er' : rd_T40 l ((i - 1 : Nat) : Int) = l.getD (i - 1) z40 := by simp [rd_T40]
        have c3 : 0 ≤ ((i - 1 : Nat) : Int) := by omega
        have c4 : ((i - 1 : Nat) : Int) < (l.length : Int) := by omega
        simp only [if_pos h0, ew', if_pos c3, if_pos c4, er']
        by_cases c : (l.getD (i - 1) z40).f0 ≥ (l.getD i z40).f0
        · simp only [if_pos c]
          refine ⟨false, rfl, rfl, ?_⟩
          simp only [Bool.false_eq_true, false_iff]
          intro h
          have := (h.1 i (Nat.le_refl _) hi).2 (by omega)
          omega
        · simp only [if_neg c]
          exact ⟨b, e1, e2, hb.trans (and_congr_left fun _ => goodFrom_step hv (fun _ => by omega))⟩
      · simp only [if_neg h0]
        exact ⟨b, e1, e2, hb.trans (and_congr_left fun _ => goodFrom_step hv (fun h => by omega))⟩

theorem set_step {α : Type} (m : List α) (z : α) (i n : Nat) (hm : m.length = n) (hi : i < n) :
    (m.take i ++ (List.replicate n z).drop i).set i (m[i]'(by omega)) = m.take (i + 1) ++ (List.replicate n z).drop (i + 1) := by
  have e1 : (List.replicate n z).drop i = z :: (List.replicate n z).drop (i + 1) := by
    rw [List.drop_eq_getElem_cons (by simpa using hi)]
    simp
  have e2 : (m.take i).length = i := by simp; omega
  rw [List.set_append_right _ _ (by omega), e2, Nat.sub_self, e1, List.set_cons_zero, List.take_succ_eq_append_getElem (by omega), List.append_assoc]
  rfl

/-- The conversion of a struct, field by field. -/
def cv38 (x : S38) : S40 := ⟨x.f0, x.f1, x.f2, x.f3⟩
theorem laws_toToolS_loop (l : List S38) (hl : l.length ≤ 140737488351232) (d : Nat) : ∀ (k i : Nat), i + d = l.length → d < k →
    laws_toToolS.l0 k l ((l.map cv38).take i ++ (List.replicate l.length z40).drop i) (i : Int) = some (l.map cv38) := by
  induction d with
  | zero =>
    intro k i hd hk
    obtain ⟨k, rfl⟩ : ∃ m, k = m + 1 := ⟨k - 1, by omega⟩
    simp only [laws_toToolS.l0]
    rw [if_neg (by omega)]
    have e : i = l.length := by omega
    subst e
    rw [List.take_of_length_le (by simp), List.drop_of_length_le (by simp), List.append_nil]
  | succ d ih =>
    intro k i hd hk
    obtain ⟨k, rfl⟩ : ∃ m, k = m + 1 := ⟨k - 1, by omega⟩
    have hi : i < l.length := by omega
    have hlen : ((l.map cv38).take i ++ (List.replicate l.length z40).drop i).length = l.length := by simp; omega
    have ew : wrap64 ((i : Int) + 1) = ((i + 1 : Nat) : Int) := (w64 (by omega) (by omega)).trans (by omega)
    have er : rd_T38 l (i : Int) = l[i] := by simp [rd_T38, hi]
    simp only [laws_toToolS.l0, laws_toTool.f, Option.bind_some]
    rw [if_pos (by omega), if_pos (by omega), if_pos (by rw [hlen]; omega), ew, er]
    have es : (((l.map cv38).take i ++ (List.replicate l.length z40).drop i).set (i : Int).toNat (cv38 l[i])) = (l.map cv38).take (i + 1) ++ (List.replicate l.length z40).drop (i + 1) := by
      have := set_step (l.map cv38) z40 i l.length (by simp) hi
      simpa using this
    have h := ih k (i + 1) (by omega) (by omega)
    rw [← es] at h
    exact h
theorem laws_toToolS_eq (l : List S38) (hl : l.length ≤ 8796093022208) {k : Nat} (hk : l.length < k) : laws_toToolS.f k l = some (l.map cv38) := by
  unfold laws_toToolS.f
  rw [if_pos (by omega), if_pos (by simpa using hl)]
  have h := laws_toToolS_loop l (by omega) l.length k 0 (by omega) hk
  simpa using h

theorem laws_eqTool_same (x : S40) : laws_eqTool.f x.f0 x.f1 x.f2 x.f3 x.f0 x.f1 x.f2 x.f3 = some true := by unfold laws_eqTool.f; simp
theorem laws_eqToolS_loop (l : List S40) (hl : l.length ≤ 140737488351232) (d : Nat) : ∀ (k i : Nat), i + d = l.length → d < k → laws_eqToolS.l0 k l l (i : Int) = some true := by
  induction d with
  | zero =>
    intro k i hd hk
    obtain ⟨k, rfl⟩ : ∃ m, k = m + 1 := ⟨k - 1, by omega⟩
    simp only [laws_eqToolS.l0]
    rw [if_neg (by omega)]
  | succ d ih =>
    intro k i hd hk
    obtain ⟨k, rfl⟩ : ∃ m, k = m + 1 := ⟨k - 1, by omega⟩
    have ew : wrap64 ((i : Int) + 1) = ((i + 1 : Nat) : Int) := (w64 (by omega) (by omega)).trans (by omega)
    simp only [laws_eqToolS.l0, laws_eqTool_same, Option.bind_some, if_true]
    rw [if_pos (by omega), if_pos (by omega), if_pos (by omega), ew]
    exact ih k (i + 1) (by omega) (by omega)
theorem laws_eqToolS_eq (l : List S40) (hl : l.length ≤ 140737488351232) {k : Nat} (hk : l.length < k) : laws_eqToolS.f k l l = some true := by
  unfold laws_eqToolS.f
  rw [if_pos rfl]
  exact laws_eqToolS_loop l hl l.length k 0 (by omega) hk

theorem FnExactAreTools : Asked := by
  intro l hl _
  by_cases hs : wrap64 (1048576 - (l.length : Int)) < 0
  · refine ⟨0, ?_⟩
    unfold laws_FnExactAreTools.f laws_szToolS.f
    rw [if_pos hs]
    simp
  · rw [w64 (by omega) (by omega)] at hs
    obtain ⟨b, e1, e2, _⟩ := good_loops (l.map cv38) (by simp; omega) (l.map cv38).length (l.length + 2) 0 (by omega) (by simp)
    refine ⟨l.length + 2, ?_⟩
    unfold laws_FnExactAreTools.f laws_szToolS.f spec_AreTools.f spec_l3Good.f impl_AreTools.f
    rw [w64 (by omega) (by omega), if_neg hs]
    simp only [Option.bind_some]
    rw [if_neg hs, laws_toToolS_eq l (by omega) (by omega)]
    simp only [Option.bind_some]
    have e1' : spec_l3Good.l0 (l.length + 2) (l.map cv38) 0 = some b := e1
    have e2' : impl_AreTools.l0 (l.length + 2) (l.map cv38) (l.map cv38) ((l.map cv38).length : Int) 0 = some b := e2
    rw [e1', e2', laws_eqToolS_eq (l.map cv38) (by simp; omega) (by simp)]
    simp
end Go.Proofs.Ytldbeelhmplmcaa.Pure
