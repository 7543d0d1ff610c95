/- Contracts of the functions that the law FnExactSmallestTeam comes to: each is told as a plain function of its arguments, and the machine's call does what that function says; no condition. Written by programs (print.py, xprint.py); Lean checks it. -/
import Derived.Test.YtafdklajmklmkaaDoorXFnExactSmallestTeamx0
import Derived.Test.YtafdklajmklmkaaDoorXFnExactSmallestTeamx1
import Derived.Test.YtafdklajmklmkaaDoorXFnExactSmallestTeamx2
import Derived.Test.YtafdklajmklmkaaDoorXFnExactSmallestTeamx5
import Derived.Test.YtafdklajmklmkaaDoorXFnExactSmallestTeamx6
import Derived.Test.YtafdklajmklmkaaDoorXFnExactSmallestTeamx7
import Derived.Test.YtafdklajmklmkaaDoorXFnExactSmallestTeamx8
namespace Go.Proofs.YtafdklajmklmkaaDoor.XFnExactSmallestTeam
open Go.RowKit Go.Proofs.YtafdklajmklmkaaDoorW.PrintWords Go.Proofs.YtafdklajmklmkaaDoorW.PrintLast Go.Proofs.YtafdklajmklmkaaDoorW.PrintMore
attribute [local go_sem] max2_int min2_int max_two min_two max_three min_three max_four min_four   -- for this text's walks alone
set_option linter.unusedVariables false
set_option linter.unusedSimpArgs false

/-! ### impl_SmallestTeam: function 36 (by hand) -/
/-- The best so far: none, or one that lies somewhere. -/
def BestIs (W : World) (base : Nat) (v : Value) (b : List Int) : Prop := Kd.R (Kd.int .i64) 3 W base (fun _ => True) v b ∧ (b = [] → v = .slice none 0 0)
theorem BestIs.below {W W1 : World} {base : Nat} {v : Value} {b : List Int} (h : BestIs W base v b) (hb : Below W.heap.size W W1) : BestIs W1 base v b := ⟨Kd.R_below h.1 hb, h.2⟩
theorem BestIs.form {W : World} {base : Nat} {v : Value} {b : List Int} (h : BestIs W base v b) : (b = [] ∧ v = .slice none 0 0) ∨ (0 < b.length ∧ ∃ ad c, v = .slice (some ad) b.length c) := by
  by_cases hb : b = []
  · exact .inl ⟨hb, h.2 hb⟩
  · have hl : 0 < b.length := List.length_pos_iff.mpr hb
    obtain ⟨g, cap, e, _⟩ := Kd.R_form h.1 hl
    exact .inr ⟨hl, _, _, e⟩
theorem at_rows {w : World} {A : Option Addr} {n : Nat} {xs : List (List S56)} (h : Kd.C (Kd.slice 56 k56) w A n xs) (i : Nat) (h1 : i < n) (h2 : i < xs.length) : ∃ ad A0 c0, A = some ad ∧ w.cell? (ad.add i) = some (.slice A0 (xs[i]).length c0) ∧ (xs[i]).length ≤ c0 ∧ Kd.C k56 w A0 (xs[i]).length xs[i] := by
  obtain ⟨ad, c, e, _, hK, hc0⟩ := Kd.C_get h ([] : List S56) (i : Int) (by omega) (by omega)
  have er : xs.getD (i : Int).toNat [] = xs[i] := by simp [h2]
  rw [er] at hK
  have hc : ∀ j u, c[j]? = some u → w.cell? (ad.add ((i : Int).toNat * 1 + j)) = some u := hc0
  obtain ⟨A0, c0, rfl, l0, g0⟩ := hK
  exact ⟨ad, A0, c0, e, by have hq := hc 0 _ rfl; rwa [Nat.mul_one, Nat.add_zero, Int.toNat_natCast] at hq, l0, g0⟩
/-- The smallest of the teams that serve; of the teams in line, the first. -/
def smallL (k : Nat) (need : Int) : List (List S56) → List Int → Option (List Int × Bool)
  | [], b => some (b, !b.isEmpty)
  | M :: T, b => if M.length = 0 then none else (impl_skills.f k M).bind fun t => if Go.bits .and .i64 t.1 need = need then (if 20 ≤ t.2 then (if b = [] ∨ M.length < b.length then (if M.length ≤ 1000000 then smallL k need T (idsL M) else none) else smallL k need T b) else smallL k need T b) else smallL k need T b
theorem smallL.mono (need : Int) : ∀ (T : List (List S56)) (b : List Int) (k : Nat), LeO (smallL k need T b) (smallL (k + 1) need T b)
  | [], b, k => LeO.refl _
  | M :: T, b, k => by
    have ih := smallL.mono need T
    simp only [smallL]
    refine LeO.ite (LeO.refl _) (LeO.bind (impl_skills.mono M k) (fun t => ?_))
    refine LeO.ite (LeO.ite (LeO.ite (LeO.ite (ih _ k) (LeO.refl _)) (ih _ k)) (ih _ k)) (ih _ k)
def impl_SmallestTeam.f (k : Nat) (l0 : List S56) (a1 : Int) : Option (List Int × Bool) := (impl_ArePeople.f k l0).bind fun g => if g = true then ((impl_areSkills.f a1).bind fun s => if s = true then (impl_teams.f k l0).bind fun T => smallL k a1 T [] else some ([], false)) else some ([], false)
theorem impl_SmallestTeam.mono : ∀ a0 a1 k, LeO (impl_SmallestTeam.f k a0 a1) (impl_SmallestTeam.f (k + 1) a0 a1) := by
  intro a0 a1 k
  unfold impl_SmallestTeam.f
  refine LeO.bind (impl_ArePeople.mono a0 k) (fun g => ?_)
  refine LeO.ite (LeO.bind (LeO.refl _) (fun s => ?_)) (LeO.refl _)
  refine LeO.ite (LeO.bind (impl_teams.mono a0 k) (fun T => smallL.mono a1 T [] k)) (LeO.refl _)
set_option maxHeartbeats 8000000 in
set_option maxRecDepth 100000 in
theorem impl_SmallestTeam.calls (k : Nat) (A0 : Option Addr) (c0 : Nat) (l0 : List S56) (a1 : Int) (r1 : List Int) (r2 : Bool) (w : World) (hr0 : Kd.C k56 w A0 l0.length l0) (hc0 : l0.length ≤ c0) (h : impl_SmallestTeam.f k l0 a1 = some (r1, r2)) :
    Calls Tryd.prog 36 #[.slice A0 l0.length c0, .int .i64 a1] w fun e w' => ∃ v0_ : Value, e = .returned (.tuple #[v0_, .bool r2]) ∧ Kd.R (Kd.int .i64) 3 w' w.heap.size (fun _ => True) v0_ r1 ∧ Below w.heap.size w w' := by
  have HR0 := Aside0.mk hr0
  have HC0 := Aside0.mk hc0
  have HB := Aside0.mk (Below.refl w.heap.size w)
  unfold impl_SmallestTeam.f at h
  obtain ⟨g, hg, h2⟩ := Option.bind_eq_some_iff.mp h
  have HG := Aside0.mk hg
  clear hr0 hc0 h hg
  cases g with
  | false =>
    simp only [Bool.false_eq_true, if_false, Option.some.injEq, Prod.mk.injEq] at h2
    obtain ⟨rfl, rfl⟩ := h2
    go_enter Tryd.func36, Tryd.ntmps36
    go_wp2_with (go_at_call 15; refine (impl_ArePeople.calls k A0 c0 l0 false _ HR0.out HC0.out HG.out).mono ?_; rintro e w1 ⟨rfl, hb⟩; have HB1 := Aside0.mk (below_step HB.out hb); clear hb)
    go_ret2
    exact ⟨_, rfl, Kd.R_nil _ _ _ _ _, HB1.out⟩
  | true =>
    simp only [if_true] at h2
    obtain ⟨s, hs, h3⟩ := Option.bind_eq_some_iff.mp h2
    have HS := Aside0.mk hs
    clear h2 hs
    cases s with
    | false =>
      simp only [Bool.false_eq_true, if_false, Option.some.injEq, Prod.mk.injEq] at h3
      obtain ⟨rfl, rfl⟩ := h3
      go_enter Tryd.func36, Tryd.ntmps36
      go_wp2_with (first
        | (go_at_call 15; refine (impl_ArePeople.calls k A0 c0 l0 true _ HR0.out HC0.out HG.out).mono ?_; rintro e w1 ⟨rfl, hb⟩; have HB1 := Aside0.mk (below_step HB.out hb); clear hb)
        | (go_at_call 47; refine (impl_areSkills.calls a1 false _ HS.out).mono ?_; rintro e w2 ⟨rfl, ⟨nd, rfl⟩⟩; have HB2 := Aside0.mk (pw_below_drewN HB1.out nd)))
      go_ret2
      exact ⟨_, rfl, Kd.R_nil _ _ _ _ _, HB2.out⟩
    | true =>
      simp only [if_true] at h3
      obtain ⟨T, hT, h4⟩ := Option.bind_eq_some_iff.mp h3
      have HT := Aside0.mk hT
      have H0 := Aside0.mk h4
      clear h3 hT h4
      go_enter Tryd.func36, Tryd.ntmps36
      go_wp2_with (first
        | (go_at_call 15; refine (impl_ArePeople.calls k A0 c0 l0 true _ HR0.out HC0.out HG.out).mono ?_; rintro e w1 ⟨rfl, hb⟩; have HB1 := Aside0.mk (below_step HB.out hb); clear hb)
        | (go_at_call 47; refine (impl_areSkills.calls a1 true _ HS.out).mono ?_; rintro e w2 ⟨rfl, ⟨nd, rfl⟩⟩; have HB2 := Aside0.mk (pw_below_drewN HB1.out nd))
        | (go_at_call 63; refine (impl_teams.calls k A0 c0 l0 T _ (Kd.C_below HR0.out HB2.out) HC0.out HT.out).mono ?_; rintro e w3 ⟨v, rfl, hv, hb⟩; obtain ⟨Av, cv, rfl, hcl, hC⟩ := Kd.S_reads hv; have HCV := Aside0.mk hC; have HB3 := Aside0.mk (below_step HB2.out hb); clear hb hv hC hcl))
      have HLM := Aside0.mk (show T.length ≤ 9223372036854775807 from HCV.out.2.1)
      go_loopg [6, 22] T.length (fun kq v6 v22 w' => ∃ (j : Nat) (b : List Int), v22 = .int .i64 j ∧ Aside0 (kq + j = T.length) ∧ Aside0 (smallL k a1 (T.drop j) b = some (r1, r2)) ∧ Aside0 (BestIs w' w.heap.size v6 b) ∧ Aside0 (Below w.heap.size w w') ∧ Aside0 (Kd.C (Kd.slice 56 k56) w' Av T.length T))
      case atStart => exact ⟨0, [], rfl, ⟨rfl⟩, H0, ⟨⟨Kd.R_nil _ _ _ _ _, fun _ => rfl⟩⟩, HB3, HCV⟩
      case round =>
        clear H0 HCV HB1 HB2 HB3
        obtain ⟨j, b, rfl, HJ, HM, HBI, HB, HCV⟩ := hrel
        have q29 : ∀ (w : World) (a : Option Addr) (n c n' c' : Nat), (binOp .eql 29 (.slice a n c) (.slice none n' c')).run Tryd.prog w = .ok (.bool a.isNone) w := fun w a n c n' c' => Lib.run_eql_slice_nil w _ _ a n c n' c' Tryd.underlying29
        have q29n : ∀ (w : World) (a : Option Addr) (n c n' c' : Nat), (binOp .neq 29 (.slice a n c) (.slice none n' c')).run Tryd.prog w = .ok (.bool (!a.isNone)) w := fun w a n c n' c' => run_neq_slice_nil_any w _ _ a n c n' c' Tryd.underlying29
        cases gk with
        | zero =>
          have c1 : ¬ j < T.length := by have := HJ.out; omega
          have c1n : decide (j < T.length) = false := decide_eq_false c1
          have c1b : decide ((j : Int) < (T.length : Int)) = false := decide_eq_false (by omega)
          have H := HM.out
          rw [List.drop_of_length_le (by omega)] at H
          clear HM c1
          rcases HBI.out.form with ⟨rfl, rfl⟩ | ⟨hl, ad, cb, rfl⟩
          · simp only [smallL, List.isEmpty_nil, Bool.not_true, Option.some.injEq, Prod.mk.injEq] at H
            obtain ⟨rfl, rfl⟩ := H
            go_wp2
            go_ret2
            exact ⟨_, rfl, Kd.R_nil _ _ _ _ _, HB.out⟩
          · have hbe : b.isEmpty = false := by cases b with | nil => simp at hl | cons _ _ => rfl
            simp only [smallL, hbe, Bool.not_false, Option.some.injEq, Prod.mk.injEq] at H
            obtain ⟨rfl, rfl⟩ := H
            clear hl hbe
            go_wp2
            go_ret2
            exact ⟨_, rfl, HBI.out.1, HB.out⟩
        | succ q =>
          have c1 : j < T.length := by have := HJ.out; omega
          have c1n : decide (j < T.length) = true := decide_eq_true c1
          have c1b : decide ((j : Int) < (T.length : Int)) = true := decide_eq_true (by omega)
          have CJ := Aside0.mk c1
          obtain ⟨ad, A', c', e1, hx, hle, hCM⟩ := at_rows HCV.out j c1 c1
          cases e1
          have H := HM.out
          rw [List.drop_eq_getElem_cons c1] at H
          generalize T[j] = M at hx hle hCM H
          have HLE := Aside0.mk hle
          have HCM := Aside0.mk hCM
          clear HM hle hCM
          simp only [smallL] at H
          by_cases h0 : M.length = 0
          · rw [if_pos h0] at H; cases H
          rw [if_neg h0] at H
          obtain ⟨⟨own, trips⟩, hsk, H2⟩ := Option.bind_eq_some_iff.mp H
          have HSK := Aside0.mk hsk
          have HM0 := Aside0.mk h0
          clear H hsk h0
          simp only at H2
          by_cases d1 : Go.bits .and .i64 own a1 = a1
          · rw [if_pos d1] at H2
            have d1b : (Go.bits .and .i64 own a1 == a1) = true := beq_iff_eq.mpr d1
            clear d1
            by_cases d2 : 20 ≤ trips
            · rw [if_pos d2] at H2
              have d2b : decide (20 ≤ trips) = true := decide_eq_true d2
              clear d2
              by_cases d3 : b = [] ∨ M.length < b.length
              · rw [if_pos d3] at H2
                by_cases d4 : M.length ≤ 1000000
                · rw [if_pos d4] at H2
                  have HE := Aside0.mk H2
                  have HD4 := Aside0.mk d4
                  clear H2 d4
                  rcases HBI.out.form with ⟨rfl, rfl⟩ | ⟨hl, ad2, cb, rfl⟩
                  · clear d3
                    go_wp2_with (first
                      | (go_at_call 58; refine (impl_skills.calls k A' c' M own trips _ HCM.out HLE.out HSK.out).mono ?_; rintro e w4 ⟨rfl, hb⟩; have HB4 := Aside0.mk (below_step HB.out hb); have HCM4 := Aside0.mk (Kd.C_below HCM.out hb); have HCV4 := Aside0.mk (Kd.C_below HCV.out hb); clear hb)
                      | (go_at_call 65; refine (idsOf_gr A' c' M _ HCM4.out HLE.out HD4.out).mono ?_; rintro e w5 ⟨v5, rfl, ho, hg⟩; have HO5 := Aside0.mk (Kd.R_lower ho (below_size HB4.out)); have HB5 := Aside0.mk (below_step HB4.out hg.1); have HCV5 := Aside0.mk (Kd.C_below HCV4.out hg.1); clear ho hg))
                    go_roundg q
                    case measure => omega
                    case rel => exact ⟨j + 1, idsL M, congrArg (Value.int .i64) (by have := CJ.out; have := HLM.out; first | rfl | (unfold wrap64; omega) | omega), ⟨by have := HJ.out; omega⟩, HE, ⟨⟨HO5.out, fun h => absurd (congrArg List.length h) (by have := HM0.out; unfold idsL; simpa using this)⟩⟩, HB5, HCV5⟩
                  · have d3b : M.length < b.length := d3.resolve_left (fun h => by rw [h] at hl; simp at hl)
                    have d3n : decide (M.length < b.length) = true := decide_eq_true d3b
                    have d3i : decide ((M.length : Int) < (b.length : Int)) = true := decide_eq_true (by omega)
                    clear d3 d3b hl
                    go_wp2_with (first
                      | (go_at_call 58; refine (impl_skills.calls k A' c' M own trips _ HCM.out HLE.out HSK.out).mono ?_; rintro e w4 ⟨rfl, hb⟩; have HB4 := Aside0.mk (below_step HB.out hb); have HCM4 := Aside0.mk (Kd.C_below HCM.out hb); have HCV4 := Aside0.mk (Kd.C_below HCV.out hb); clear hb)
                      | (go_at_call 65; refine (idsOf_gr A' c' M _ HCM4.out HLE.out HD4.out).mono ?_; rintro e w5 ⟨v5, rfl, ho, hg⟩; have HO5 := Aside0.mk (Kd.R_lower ho (below_size HB4.out)); have HB5 := Aside0.mk (below_step HB4.out hg.1); have HCV5 := Aside0.mk (Kd.C_below HCV4.out hg.1); clear ho hg))
                    go_roundg q
                    case measure => omega
                    case rel => exact ⟨j + 1, idsL M, congrArg (Value.int .i64) (by have := CJ.out; have := HLM.out; first | rfl | (unfold wrap64; omega) | omega), ⟨by have := HJ.out; omega⟩, HE, ⟨⟨HO5.out, fun h => absurd (congrArg List.length h) (by have := HM0.out; unfold idsL; simpa using this)⟩⟩, HB5, HCV5⟩
                · rw [if_neg d4] at H2; cases H2
              · rw [if_neg d3] at H2
                have HE := Aside0.mk H2
                clear H2
                rcases HBI.out.form with ⟨rfl, _⟩ | ⟨hl, ad2, cb, rfl⟩
                · exact absurd (.inl rfl) d3
                · have d3b : ¬ M.length < b.length := fun h => d3 (.inr h)
                  have d3n : decide (M.length < b.length) = false := decide_eq_false d3b
                  have d3i : decide ((M.length : Int) < (b.length : Int)) = false := decide_eq_false (by omega)
                  clear d3 d3b hl
                  go_wp2_with (first
                    | (go_at_call 58; refine (impl_skills.calls k A' c' M own trips _ HCM.out HLE.out HSK.out).mono ?_; rintro e w4 ⟨rfl, hb⟩; have HB4 := Aside0.mk (below_step HB.out hb); have HBI4 := Aside0.mk (BestIs.below HBI.out hb); have HCV4 := Aside0.mk (Kd.C_below HCV.out hb); clear hb))
                  go_roundg q
                  case measure => omega
                  case rel => exact ⟨j + 1, b, congrArg (Value.int .i64) (by have := CJ.out; have := HLM.out; first | rfl | (unfold wrap64; omega) | omega), ⟨by have := HJ.out; omega⟩, HE, HBI4, HB4, HCV4⟩
            · rw [if_neg d2] at H2
              have d2b : decide (20 ≤ trips) = false := decide_eq_false d2
              have HE := Aside0.mk H2
              clear d2 H2
              go_wp2_with (first
                | (go_at_call 58; refine (impl_skills.calls k A' c' M own trips _ HCM.out HLE.out HSK.out).mono ?_; rintro e w4 ⟨rfl, hb⟩; have HB4 := Aside0.mk (below_step HB.out hb); have HBI4 := Aside0.mk (BestIs.below HBI.out hb); have HCV4 := Aside0.mk (Kd.C_below HCV.out hb); clear hb))
              go_roundg q
              case measure => omega
              case rel => exact ⟨j + 1, b, congrArg (Value.int .i64) (by have := CJ.out; have := HLM.out; first | rfl | (unfold wrap64; omega) | omega), ⟨by have := HJ.out; omega⟩, HE, HBI4, HB4, HCV4⟩
          · rw [if_neg d1] at H2
            have d1b : (Go.bits .and .i64 own a1 == a1) = false := beq_eq_false_iff_ne.mpr d1
            have HE := Aside0.mk H2
            clear d1 H2
            go_wp2_with (first
              | (go_at_call 58; refine (impl_skills.calls k A' c' M own trips _ HCM.out HLE.out HSK.out).mono ?_; rintro e w4 ⟨rfl, hb⟩; have HB4 := Aside0.mk (below_step HB.out hb); have HBI4 := Aside0.mk (BestIs.below HBI.out hb); have HCV4 := Aside0.mk (Kd.C_below HCV.out hb); clear hb))
            go_roundg q
            case measure => omega
            case rel => exact ⟨j + 1, b, congrArg (Value.int .i64) (by have := CJ.out; have := HLM.out; first | rfl | (unfold wrap64; omega) | omega), ⟨by have := HJ.out; omega⟩, HE, HBI4, HB4, HCV4⟩


/-! ### laws_FnExactSmallestTeam: function 10 -/
mutual
def laws_FnExactSmallestTeam.j0 : Nat → List (S55) → Int → List Int → Bool → List (S56) → List Int → Bool → Bool → Option (Bool)
  | 0, _, _, _, _, _, _, _, _ => none
  | k + 1, x0, x1, x6, x7, x8, x9, x10, x44 => if x44 = true then (some false) else ((laws_toPersonS.f k x0).bind fun t235 => ((laws_eqPersonS.f k x8 t235).bind fun t238 => (if t238 = true then ((laws_markPersonS.f k x8 1).bind fun bt239 => (if bt239.1 < 0 then (laws_FnExactSmallestTeam.j1 k x0 x1 x6 x7 x9 true) else ((laws_eqIntS.f k x9 x6).bind fun t241 => (if t241 = true then (laws_FnExactSmallestTeam.j1 k x0 x1 x6 x7 x9 (x10 != x7)) else (laws_FnExactSmallestTeam.j1 k x0 x1 x6 x7 x9 true))))) else (some false))))
def laws_FnExactSmallestTeam.j1 : Nat → List (S55) → Int → List Int → Bool → List Int → Bool → Option (Bool)
  | 0, _, _, _, _, _, _ => none
  | k + 1, x0, x1, x6, x7, x9, x65 => if x65 = true then (some false) else ((laws_markIntS.f k x9 1).bind fun bt242 => ((laws_heldIntS.f k bt242.2 1).bind fun t244 => (if t244 < 0 then (some false) else (if t244 = bt242.1 then ((laws_toPersonS.f k x0).bind fun t245 => ((impl_SmallestTeam.f k t245 x1).bind fun bt248 => ((laws_eqIntS.f k bt248.1 x6).bind fun t252 => (if t252 = true then (laws_FnExactSmallestTeam.j2 k bt242.2 bt242.1 (bt248.2 != x7)) else (laws_FnExactSmallestTeam.j2 k bt242.2 bt242.1 true))))) else (some false)))))
def laws_FnExactSmallestTeam.j2 : Nat → List Int → Int → Bool → Option (Bool)
  | 0, _, _, _ => none
  | k + 1, x9, x12, x92 => if x92 = true then (some false) else ((laws_heldIntS.f k x9 1).bind fun t253 => (if t253 < 0 then (some false) else (if t253 = x12 then (some true) else (some false))))
end
def laws_FnExactSmallestTeam.f (k : Nat) (l0 : List (S55)) (a1 : Int) : Option (Bool) := (laws_szPersonS.f k l0 1048576).bind fun t219 => (if t219 < 0 then (some true) else ((laws_toPersonS.f k l0).bind fun t220 => ((spec_SmallestTeam.f k t220 a1).bind fun bt223 => ((laws_toPersonS.f k l0).bind fun t227 => ((impl_SmallestTeam.f k t227 a1).bind fun bt230 => ((laws_eqIntS.f k bt230.1 bt223.1).bind fun t234 => (if t234 = true then (laws_FnExactSmallestTeam.j0 k l0 a1 bt223.1 bt223.2 t227 bt230.1 bt230.2 (bt230.2 != bt223.2)) else (laws_FnExactSmallestTeam.j0 k l0 a1 bt223.1 bt223.2 t227 bt230.1 bt230.2 true))))))))
theorem laws_FnExactSmallestTeam.mono_l : ∀ k, (∀ y0 y1 y2 y3 y4 y5 y6 y7, LeO (laws_FnExactSmallestTeam.j0 k y0 y1 y2 y3 y4 y5 y6 y7) (laws_FnExactSmallestTeam.j0 (k + 1) y0 y1 y2 y3 y4 y5 y6 y7)) ∧ (∀ y0 y1 y2 y3 y4 y5, LeO (laws_FnExactSmallestTeam.j1 k y0 y1 y2 y3 y4 y5) (laws_FnExactSmallestTeam.j1 (k + 1) y0 y1 y2 y3 y4 y5)) ∧ (∀ y0 y1 y2, LeO (laws_FnExactSmallestTeam.j2 k y0 y1 y2) (laws_FnExactSmallestTeam.j2 (k + 1) y0 y1 y2))
  | 0 => ⟨fun _ _ _ _ _ _ _ _ r h => by simp [laws_FnExactSmallestTeam.j0] at h, fun _ _ _ _ _ _ r h => by simp [laws_FnExactSmallestTeam.j1] at h, fun _ _ _ r h => by simp [laws_FnExactSmallestTeam.j2] at h⟩
  | k + 1 => by
    obtain ⟨ih0, ih1, ih2⟩ := laws_FnExactSmallestTeam.mono_l k
    refine ⟨?_, ?_, ?_⟩
    · intro y0 y1 y2 y3 y4 y5 y6 y7
      unfold laws_FnExactSmallestTeam.j0
      repeat' first
      | (with_reducible exact ih0 _ _ _ _ _ _ _ _)
      | (with_reducible exact ih1 _ _ _ _ _ _)
      | (with_reducible exact ih2 _ _ _)
      | (with_reducible exact impl_SmallestTeam.mono _ _ _)
      | (with_reducible exact laws_eqIntS.mono _ _ _)
      | (with_reducible exact laws_eqPersonS.mono _ _ _)
      | (with_reducible exact laws_heldIntS.mono _ _ _)
      | (with_reducible exact laws_markIntS.mono _ _ _)
      | (with_reducible exact laws_markPersonS.mono _ _ _)
      | (with_reducible exact laws_szPersonS.mono _ _ _)
      | (with_reducible exact laws_toPersonS.mono _ _)
      | (with_reducible exact spec_SmallestTeam.mono _ _ _)
      | (with_reducible exact LeO.refl _)
      | (with_reducible exact LeO.none _)
      | (with_reducible refine LeO.ite ?_ ?_)
      | (with_reducible refine LeO.bind ?_ (fun _ => ?_))
      | exact ih0 _ _ _ _ _ _ _ _
      | exact ih1 _ _ _ _ _ _
      | exact ih2 _ _ _
      | exact impl_SmallestTeam.mono _ _ _
      | exact laws_eqIntS.mono _ _ _
      | exact laws_eqPersonS.mono _ _ _
      | exact laws_heldIntS.mono _ _ _
      | exact laws_markIntS.mono _ _ _
      | exact laws_markPersonS.mono _ _ _
      | exact laws_szPersonS.mono _ _ _
      | exact laws_toPersonS.mono _ _
      | exact spec_SmallestTeam.mono _ _ _
      | exact LeO.none _
      | refine LeO.ite ?_ ?_
      | refine LeO.bind ?_ (fun _ => ?_)
    · intro y0 y1 y2 y3 y4 y5
      unfold laws_FnExactSmallestTeam.j1
      repeat' first
      | (with_reducible exact ih0 _ _ _ _ _ _ _ _)
      | (with_reducible exact ih1 _ _ _ _ _ _)
      | (with_reducible exact ih2 _ _ _)
      | (with_reducible exact impl_SmallestTeam.mono _ _ _)
      | (with_reducible exact laws_eqIntS.mono _ _ _)
      | (with_reducible exact laws_eqPersonS.mono _ _ _)
      | (with_reducible exact laws_heldIntS.mono _ _ _)
      | (with_reducible exact laws_markIntS.mono _ _ _)
      | (with_reducible exact laws_markPersonS.mono _ _ _)
      | (with_reducible exact laws_szPersonS.mono _ _ _)
      | (with_reducible exact laws_toPersonS.mono _ _)
      | (with_reducible exact spec_SmallestTeam.mono _ _ _)
      | (with_reducible exact LeO.refl _)
      | (with_reducible exact LeO.none _)
      | (with_reducible refine LeO.ite ?_ ?_)
      | (with_reducible refine LeO.bind ?_ (fun _ => ?_))
      | exact ih0 _ _ _ _ _ _ _ _
      | exact ih1 _ _ _ _ _ _
      | exact ih2 _ _ _
      | exact impl_SmallestTeam.mono _ _ _
      | exact laws_eqIntS.mono _ _ _
      | exact laws_eqPersonS.mono _ _ _
      | exact laws_heldIntS.mono _ _ _
      | exact laws_markIntS.mono _ _ _
      | exact laws_markPersonS.mono _ _ _
      | exact laws_szPersonS.mono _ _ _
      | exact laws_toPersonS.mono _ _
      | exact spec_SmallestTeam.mono _ _ _
      | exact LeO.none _
      | refine LeO.ite ?_ ?_
      | refine LeO.bind ?_ (fun _ => ?_)
    · intro y0 y1 y2
      unfold laws_FnExactSmallestTeam.j2
      repeat' first
      | (with_reducible exact ih0 _ _ _ _ _ _ _ _)
      | (with_reducible exact ih1 _ _ _ _ _ _)
      | (with_reducible exact ih2 _ _ _)
      | (with_reducible exact impl_SmallestTeam.mono _ _ _)
      | (with_reducible exact laws_eqIntS.mono _ _ _)
      | (with_reducible exact laws_eqPersonS.mono _ _ _)
      | (with_reducible exact laws_heldIntS.mono _ _ _)
      | (with_reducible exact laws_markIntS.mono _ _ _)
      | (with_reducible exact laws_markPersonS.mono _ _ _)
      | (with_reducible exact laws_szPersonS.mono _ _ _)
      | (with_reducible exact laws_toPersonS.mono _ _)
      | (with_reducible exact spec_SmallestTeam.mono _ _ _)
      | (with_reducible exact LeO.refl _)
      | (with_reducible exact LeO.none _)
      | (with_reducible refine LeO.ite ?_ ?_)
      | (with_reducible refine LeO.bind ?_ (fun _ => ?_))
      | exact ih0 _ _ _ _ _ _ _ _
      | exact ih1 _ _ _ _ _ _
      | exact ih2 _ _ _
      | exact impl_SmallestTeam.mono _ _ _
      | exact laws_eqIntS.mono _ _ _
      | exact laws_eqPersonS.mono _ _ _
      | exact laws_heldIntS.mono _ _ _
      | exact laws_markIntS.mono _ _ _
      | exact laws_markPersonS.mono _ _ _
      | exact laws_szPersonS.mono _ _ _
      | exact laws_toPersonS.mono _ _
      | exact spec_SmallestTeam.mono _ _ _
      | exact LeO.none _
      | refine LeO.ite ?_ ?_
      | refine LeO.bind ?_ (fun _ => ?_)
theorem laws_FnExactSmallestTeam.mono : ∀ a0 a1 k, LeO (laws_FnExactSmallestTeam.f k a0 a1) (laws_FnExactSmallestTeam.f (k + 1) a0 a1) := by
  intro a0 a1 k
  obtain ⟨ih0, ih1, ih2⟩ := laws_FnExactSmallestTeam.mono_l k
  unfold laws_FnExactSmallestTeam.f
  repeat' first
      | (with_reducible exact ih0 _ _ _ _ _ _ _ _)
      | (with_reducible exact ih1 _ _ _ _ _ _)
      | (with_reducible exact ih2 _ _ _)
      | (with_reducible exact impl_SmallestTeam.mono _ _ _)
      | (with_reducible exact laws_eqIntS.mono _ _ _)
      | (with_reducible exact laws_eqPersonS.mono _ _ _)
      | (with_reducible exact laws_heldIntS.mono _ _ _)
      | (with_reducible exact laws_markIntS.mono _ _ _)
      | (with_reducible exact laws_markPersonS.mono _ _ _)
      | (with_reducible exact laws_szPersonS.mono _ _ _)
      | (with_reducible exact laws_toPersonS.mono _ _)
      | (with_reducible exact spec_SmallestTeam.mono _ _ _)
      | (with_reducible exact LeO.refl _)
      | (with_reducible exact LeO.none _)
      | (with_reducible refine LeO.ite ?_ ?_)
      | (with_reducible refine LeO.bind ?_ (fun _ => ?_))
      | exact ih0 _ _ _ _ _ _ _ _
      | exact ih1 _ _ _ _ _ _
      | exact ih2 _ _ _
      | exact impl_SmallestTeam.mono _ _ _
      | exact laws_eqIntS.mono _ _ _
      | exact laws_eqPersonS.mono _ _ _
      | exact laws_heldIntS.mono _ _ _
      | exact laws_markIntS.mono _ _ _
      | exact laws_markPersonS.mono _ _ _
      | exact laws_szPersonS.mono _ _ _
      | exact laws_toPersonS.mono _ _
      | exact spec_SmallestTeam.mono _ _ _
      | exact LeO.none _
      | refine LeO.ite ?_ ?_
      | refine LeO.bind ?_ (fun _ => ?_)
set_option maxHeartbeats 8000000 in
set_option maxRecDepth 100000 in
theorem laws_FnExactSmallestTeam.calls (k : Nat) (A0 : Option Addr) (c0 : Nat) (l0 : List (S55)) (a1 : Int) (r : Bool) (w : World) (hr0 : Kd.C k55 w A0 l0.length l0) (hc0 : l0.length ≤ c0) (h : laws_FnExactSmallestTeam.f k l0 a1 = some r) :
    Calls Tryd.prog 10 #[.slice A0 l0.length c0, .int .i64 a1] w fun e w' => e = .returned (.bool r) ∧ Below w.heap.size w w' := by
  have HR0 := Aside0.mk hr0
  have HC0 := Aside0.mk hc0
  clear hr0 hc0
  have HB := Aside0.mk (Below.refl w.heap.size w)
  have H : ((laws_szPersonS.f k l0 1048576).bind fun t219 => (if t219 < 0 then (some true) else ((laws_toPersonS.f k l0).bind fun t220 => ((spec_SmallestTeam.f k t220 a1).bind fun bt223 => ((laws_toPersonS.f k l0).bind fun t227 => ((impl_SmallestTeam.f k t227 a1).bind fun bt230 => ((laws_eqIntS.f k bt230.1 bt223.1).bind fun t234 => (if t234 = true then (laws_FnExactSmallestTeam.j0 k l0 a1 bt223.1 bt223.2 t227 bt230.1 bt230.2 (bt230.2 != bt223.2)) else (laws_FnExactSmallestTeam.j0 k l0 a1 bt223.1 bt223.2 t227 bt230.1 bt230.2 true))))))))) = some r := h
  clear h
  replace H := Option.bind_eq_some_iff.mp H
  obtain ⟨t219, A30, H⟩ := H
  replace H : (if t219 < 0 then (some true) else ((laws_toPersonS.f k l0).bind fun t220 => ((spec_SmallestTeam.f k t220 a1).bind fun bt223 => ((laws_toPersonS.f k l0).bind fun t227 => ((impl_SmallestTeam.f k t227 a1).bind fun bt230 => ((laws_eqIntS.f k bt230.1 bt223.1).bind fun t234 => (if t234 = true then (laws_FnExactSmallestTeam.j0 k l0 a1 bt223.1 bt223.2 t227 bt230.1 bt230.2 (bt230.2 != bt223.2)) else (laws_FnExactSmallestTeam.j0 k l0 a1 bt223.1 bt223.2 t227 bt230.1 bt230.2 true)))))))) = some r := H
  have A3 := Aside0.mk A30
  clear A30
  by_cases c4 : t219 < 0
  · rw [if_pos c4] at H
    have c4b0 : decide (t219 < 0) = true := decide_eq_true c4
    clear c4
    obtain rfl := Option.some.inj H
    go_enter Tryd.func10, Tryd.ntmps10
    go_wp2_with (first | ((with_reducible refine gate_callee (f := 12) rfl ?_); refine goesL_ (some 18) rfl rfl Tryd.func12 (by kernel_rfl) rfl #[.slice A0 l0.length c0, .int .i64 1048576] rfl (by (try simp only [List.map_toArray, List.map_cons, List.map_nil]); first | done | rfl | (simp only [List.length_drop, List.length_take]; rfl)) ?_; (with_reducible refine (laws_szPersonS.calls k _ _ l0 1048576 t219 _ ?side1 ?side2 A3.out).mono ?_); (case side1 => repeat (first | exact HR0.out | (with_reducible refine Kd.C_alloc ?_ _) | (with_reducible refine Kd.C_drewN ?_ _) | (with_reducible refine Kd.C_drew ?_))); (case side2 => exact HC0.out); rintro e w5 ⟨rfl, hb⟩; refine ⟨_, rfl, ?_⟩; have n0_ := Aside0.mk (below_step (by repeat (first | (with_reducible first | exact HB.out | apply below_alloc | apply pw_below_drewN | apply below_drew1) | exact HB.out)) hb); clear HB; have HB := n0_; clear n0_; (try clear hb); (try clear hb2); (try clear hk); (try clear hi)))
    go_ret
    exact ⟨by first | rfl | (simp [errW_none, errW_some] <;> rfl) | (simp [*, errW_none, errW_some] <;> rfl), by repeat (first | (with_reducible first | exact HB.out | apply below_alloc | apply pw_below_drewN | apply below_drew1) | exact HB.out)⟩
  · rw [if_neg c4] at H
    have c4b0 : decide (t219 < 0) = false := decide_eq_false c4
    clear c4
    replace H := Option.bind_eq_some_iff.mp H
    obtain ⟨t220, A60, H⟩ := H
    replace H : ((spec_SmallestTeam.f k t220 a1).bind fun bt223 => ((laws_toPersonS.f k l0).bind fun t227 => ((impl_SmallestTeam.f k t227 a1).bind fun bt230 => ((laws_eqIntS.f k bt230.1 bt223.1).bind fun t234 => (if t234 = true then (laws_FnExactSmallestTeam.j0 k l0 a1 bt223.1 bt223.2 t227 bt230.1 bt230.2 (bt230.2 != bt223.2)) else (laws_FnExactSmallestTeam.j0 k l0 a1 bt223.1 bt223.2 t227 bt230.1 bt230.2 true)))))) = some r := H
    have A6 := Aside0.mk A60
    clear A60
    replace H := Option.bind_eq_some_iff.mp H
    obtain ⟨⟨t223, t224⟩, A70, H⟩ := H
    replace H : ((laws_toPersonS.f k l0).bind fun t227 => ((impl_SmallestTeam.f k t227 a1).bind fun bt230 => ((laws_eqIntS.f k bt230.1 t223).bind fun t234 => (if t234 = true then (laws_FnExactSmallestTeam.j0 k l0 a1 t223 t224 t227 bt230.1 bt230.2 (bt230.2 != t224)) else (laws_FnExactSmallestTeam.j0 k l0 a1 t223 t224 t227 bt230.1 bt230.2 true))))) = some r := H
    have A7 := Aside0.mk A70
    clear A70
    replace H := Option.bind_eq_some_iff.mp H
    obtain ⟨t227, A80, H⟩ := H
    replace H : ((impl_SmallestTeam.f k t227 a1).bind fun bt230 => ((laws_eqIntS.f k bt230.1 t223).bind fun t234 => (if t234 = true then (laws_FnExactSmallestTeam.j0 k l0 a1 t223 t224 t227 bt230.1 bt230.2 (bt230.2 != t224)) else (laws_FnExactSmallestTeam.j0 k l0 a1 t223 t224 t227 bt230.1 bt230.2 true)))) = some r := H
    have A8 := Aside0.mk A80
    clear A80
    replace H := Option.bind_eq_some_iff.mp H
    obtain ⟨⟨t230, t231⟩, A90, H⟩ := H
    replace H : ((laws_eqIntS.f k t230 t223).bind fun t234 => (if t234 = true then (laws_FnExactSmallestTeam.j0 k l0 a1 t223 t224 t227 t230 t231 (t231 != t224)) else (laws_FnExactSmallestTeam.j0 k l0 a1 t223 t224 t227 t230 t231 true))) = some r := H
    have A9 := Aside0.mk A90
    clear A90
    have HC10 := Aside0.mk H
    clear H
    go_enter Tryd.func10, Tryd.ntmps10
    go_upto_region 8 with (first | ((with_reducible refine gate_callee (f := 12) rfl ?_); refine goesL_ (some 18) rfl rfl Tryd.func12 (by kernel_rfl) rfl #[.slice A0 l0.length c0, .int .i64 1048576] rfl (by (try simp only [List.map_toArray, List.map_cons, List.map_nil]); first | done | rfl | (simp only [List.length_drop, List.length_take]; rfl)) ?_; (with_reducible refine (laws_szPersonS.calls k _ _ l0 1048576 t219 _ ?side1 ?side2 A3.out).mono ?_); (case side1 => repeat (first | exact HR0.out | (with_reducible refine Kd.C_alloc ?_ _) | (with_reducible refine Kd.C_drewN ?_ _) | (with_reducible refine Kd.C_drew ?_))); (case side2 => exact HC0.out); rintro e w11 ⟨rfl, hb⟩; refine ⟨_, rfl, ?_⟩; have n0_ := Aside0.mk (below_step (by repeat (first | (with_reducible first | exact HB.out | apply below_alloc | apply pw_below_drewN | apply below_drew1) | exact HB.out)) hb); clear HB; have HB := n0_; clear n0_; (try clear hb); (try clear hb2); (try clear hk); (try clear hi)) | ((with_reducible refine gate_callee (f := 14) rfl ?_); refine goesL_ (some 23) rfl rfl Tryd.func14 (by kernel_rfl) rfl #[.slice A0 l0.length c0] rfl (by (try simp only [List.map_toArray, List.map_cons, List.map_nil]); first | done | rfl | (simp only [List.length_drop, List.length_take]; rfl)) ?_; (with_reducible refine (laws_toPersonS.calls k _ _ l0 t220 _ ?side1 ?side2 A6.out).mono ?_); (case side1 => repeat (first | exact (Kd.C_below HR0.out HB.out) | (with_reducible refine Kd.C_alloc ?_ _) | (with_reducible refine Kd.C_drewN ?_ _) | (with_reducible refine Kd.C_drew ?_))); (case side2 => exact HC0.out); rintro e w12 ⟨v221, rfl, ho0, hb⟩; refine ⟨_, rfl, ?_⟩; have n0_ := Aside0.mk (Kd.R_lower ho0 (below_size (by repeat (first | (with_reducible first | exact HB.out | apply below_alloc | apply pw_below_drewN | apply below_drew1) | exact HB.out)))); have n1_ := Aside0.mk (below_step (by repeat (first | (with_reducible first | exact HB.out | apply below_alloc | apply pw_below_drewN | apply below_drew1) | exact HB.out)) hb); clear HB; have HO222 := n0_; have HB := n1_; clear n0_ n1_; (try clear hb); (try clear hb2); (try clear hk); (try clear hi); (try clear ho0); obtain ⟨Ao13, co13, eo13⟩ := Kd.R_slice HO222.out; subst eo13) | ((with_reducible refine gate_callee (f := 35) rfl ?_); refine goesL_ (some 25) rfl rfl Tryd.func35 (by kernel_rfl) rfl #[.slice Ao13 t220.length co13, .int .i64 a1] rfl (by (try simp only [List.map_toArray, List.map_cons, List.map_nil]); first | done | rfl | (simp only [List.length_drop, List.length_take]; rfl)) ?_; (with_reducible refine (spec_SmallestTeam.calls k _ _ t220 a1 t223 t224 _ ?side1 ?side2 A7.out).mono ?_); (case side1 => repeat (first | exact (Kd.R_reads' HO222.out).2.2 | (with_reducible refine Kd.C_alloc ?_ _) | (with_reducible refine Kd.C_drewN ?_ _) | (with_reducible refine Kd.C_drew ?_))); (case side2 => exact (Kd.R_reads' HO222.out).2.1); rintro e w14 ⟨v225, rfl, ho0, hb⟩; refine ⟨_, rfl, ?_⟩; have n0_ := Aside0.mk (Kd.R_below (by (with_reducible repeat (first | apply Kd.R_alloc | apply Kd.R_drewN | apply Kd.R_drew)); exact HO222.out) hb); have n1_ := Aside0.mk (Kd.R_lower ho0 (below_size (by repeat (first | (with_reducible first | exact HB.out | apply below_alloc | apply pw_below_drewN | apply below_drew1) | exact HB.out)))); have n2_ := Aside0.mk (below_step (by repeat (first | (with_reducible first | exact HB.out | apply below_alloc | apply pw_below_drewN | apply below_drew1) | exact HB.out)) hb); clear HO222; clear HB; have HO222 := n0_; have HO226 := n1_; have HB := n2_; clear n0_ n1_ n2_; (try clear hb); (try clear hb2); (try clear hk); (try clear hi); (try clear ho0)) | ((with_reducible refine gate_callee (f := 14) rfl ?_); refine goesL_ (some 29) rfl rfl Tryd.func14 (by kernel_rfl) rfl #[.slice A0 l0.length c0] rfl (by (try simp only [List.map_toArray, List.map_cons, List.map_nil]); first | done | rfl | (simp only [List.length_drop, List.length_take]; rfl)) ?_; (with_reducible refine (laws_toPersonS.calls k _ _ l0 t227 _ ?side1 ?side2 A8.out).mono ?_); (case side1 => repeat (first | exact (Kd.C_below HR0.out HB.out) | (with_reducible refine Kd.C_alloc ?_ _) | (with_reducible refine Kd.C_drewN ?_ _) | (with_reducible refine Kd.C_drew ?_))); (case side2 => exact HC0.out); rintro e w15 ⟨v228, rfl, ho0, hb⟩; refine ⟨_, rfl, ?_⟩; have n0_ := Aside0.mk (Kd.R_elder' (by (with_reducible repeat (first | apply Kd.R_alloc | apply Kd.R_drewN | apply Kd.R_drew)); exact HO222.out) (Kd.R_base ho0) hb); have n1_ := Aside0.mk (Kd.R_below (by (with_reducible repeat (first | apply Kd.R_alloc | apply Kd.R_drewN | apply Kd.R_drew)); exact HO226.out) hb); have n2_ := Aside0.mk (Kd.R_lower (Kd.R_new' ho0 (Kd.R_lt (by (with_reducible repeat (first | apply Kd.R_alloc | apply Kd.R_drewN | apply Kd.R_drew)); exact HO222.out))) (below_size (by repeat (first | (with_reducible first | exact HB.out | apply below_alloc | apply pw_below_drewN | apply below_drew1) | exact HB.out)))); have n3_ := Aside0.mk (below_step (by repeat (first | (with_reducible first | exact HB.out | apply below_alloc | apply pw_below_drewN | apply below_drew1) | exact HB.out)) hb); clear HO222; clear HO226; clear HB; have HO222 := n0_; have HO226 := n1_; have HO229 := n2_; have HB := n3_; clear n0_ n1_ n2_ n3_; (try clear hb); (try clear hb2); (try clear hk); (try clear hi); (try clear ho0); obtain ⟨Ao16, co16, eo16⟩ := Kd.R_slice HO229.out; subst eo16) | ((with_reducible refine gate_callee (f := 36) rfl ?_); refine goesL_ (some 33) rfl rfl Tryd.func36 (by kernel_rfl) rfl #[.slice Ao16 t227.length co16, .int .i64 a1] rfl (by (try simp only [List.map_toArray, List.map_cons, List.map_nil]); first | done | rfl | (simp only [List.length_drop, List.length_take]; rfl)) ?_; (with_reducible refine (impl_SmallestTeam.calls k _ _ t227 a1 t230 t231 _ ?side1 ?side2 A9.out).mono ?_); (case side1 => repeat (first | exact (Kd.R_reads' HO229.out).2.2 | (with_reducible refine Kd.C_alloc ?_ _) | (with_reducible refine Kd.C_drewN ?_ _) | (with_reducible refine Kd.C_drew ?_))); (case side2 => exact (Kd.R_reads' HO229.out).2.1); rintro e w17 ⟨v232, rfl, ho0, hb⟩; refine ⟨_, rfl, ?_⟩; have n0_ := Aside0.mk (Kd.R_below (by (with_reducible repeat (first | apply Kd.R_alloc | apply Kd.R_drewN | apply Kd.R_drew)); exact HO222.out) hb); have n1_ := Aside0.mk (Kd.R_elder' (by (with_reducible repeat (first | apply Kd.R_alloc | apply Kd.R_drewN | apply Kd.R_drew)); exact HO226.out) (Kd.R_base ho0) hb); have n2_ := Aside0.mk (Kd.R_below (by (with_reducible repeat (first | apply Kd.R_alloc | apply Kd.R_drewN | apply Kd.R_drew)); exact HO229.out) hb); have n3_ := Aside0.mk (Kd.R_lower (Kd.R_new' ho0 (Kd.R_lt (by (with_reducible repeat (first | apply Kd.R_alloc | apply Kd.R_drewN | apply Kd.R_drew)); exact HO226.out))) (below_size (by repeat (first | (with_reducible first | exact HB.out | apply below_alloc | apply pw_below_drewN | apply below_drew1) | exact HB.out)))); have n4_ := Aside0.mk (below_step (by repeat (first | (with_reducible first | exact HB.out | apply below_alloc | apply pw_below_drewN | apply below_drew1) | exact HB.out)) hb); clear HO222; clear HO226; clear HO229; clear HB; have HO222 := n0_; have HO226 := n1_; have HO229 := n2_; have HO233 := n3_; have HB := n4_; clear n0_ n1_ n2_ n3_ n4_; (try clear hb); (try clear hb2); (try clear hk); (try clear hi); (try clear ho0)))
    (try simp only [Act.put, List.setIfInBounds_toArray, List.set_cons_zero, List.set_cons_succ])
    go_cut [44] (fun v44 wc => ∃ (kq : Nat) (x44_9 : Bool), v44 = .bool x44_9 ∧ Aside0 (laws_FnExactSmallestTeam.j0 kq l0 a1 t223 t224 t227 t230 t231 x44_9 = some r) ∧ Aside0 (kq ≤ k) ∧ Aside0 (Kd.R (Kd.int .i64) 3 wc w.heap.size (fun k_ => some k_ ≠ (v232 : Value).ownBlock) v225 t223) ∧ Aside0 (Kd.R k56 56 wc w.heap.size (fun _ => True) (.slice Ao16 t227.length co16) t227) ∧ Aside0 (Kd.R (Kd.int .i64) 3 wc w.heap.size (fun k_ => some k_ ≠ (v225 : Value).ownBlock) v232 t230) ∧ Aside0 (Below w.heap.size w wc))
    case first =>
      have H := HC10.out
      clear HC10
      replace H := Option.bind_eq_some_iff.mp H
      obtain ⟨t234, A180, H⟩ := H
      replace H : (if t234 = true then (laws_FnExactSmallestTeam.j0 k l0 a1 t223 t224 t227 t230 t231 (t231 != t224)) else (laws_FnExactSmallestTeam.j0 k l0 a1 t223 t224 t227 t230 t231 true)) = some r := H
      have A18 := Aside0.mk A180
      clear A180
      by_cases c19 : t234 = true
      · subst c19
        have H1 : (laws_FnExactSmallestTeam.j0 k l0 a1 t223 t224 t227 t230 t231 (t231 != t224)) = some r := by rw [if_pos rfl] at H; exact H
        clear H
        have H := H1
        clear H1
        have H' := Aside0.mk H
        clear H
        obtain ⟨Ao20, co20, eo20⟩ := Kd.R_slice HO233.out
        subst eo20
        obtain ⟨Ao21, co21, eo21⟩ := Kd.R_slice HO226.out
        subst eo21
        go_wp2_with (first | ((with_reducible refine gate_callee (f := 19) rfl ?_); refine goesL_ (some 38) rfl rfl Tryd.func19 (by kernel_rfl) rfl #[.slice Ao20 t230.length co20, .slice Ao21 t223.length co21] rfl (by (try simp only [List.map_toArray, List.map_cons, List.map_nil]); first | done | rfl | (simp only [List.length_drop, List.length_take]; rfl)) ?_; (with_reducible refine (laws_eqIntS.calls k _ _ t230 _ _ t223 true _ ?side1 ?side2 ?side3 ?side4 A18.out).mono ?_); (case side1 => repeat (first | exact (Kd.R_reads' HO233.out).2.2 | (with_reducible refine Kd.C_alloc ?_ _) | (with_reducible refine Kd.C_drewN ?_ _) | (with_reducible refine Kd.C_drew ?_))); (case side2 => exact (Kd.R_reads' HO233.out).2.1); (case side3 => repeat (first | exact (Kd.R_reads' HO226.out).2.2 | (with_reducible refine Kd.C_alloc ?_ _) | (with_reducible refine Kd.C_drewN ?_ _) | (with_reducible refine Kd.C_drew ?_))); (case side4 => exact (Kd.R_reads' HO226.out).2.1); rintro e w' ⟨rfl, ⟨nd, rfl⟩⟩; refine ⟨_, rfl, ?_⟩))
        go_meet
        case rel => exact ⟨_, ((t231 != t224)), (by first | rfl | (simp; done) | (simp [*]; done)), H', ⟨by first | omega | exact Nat.le_refl _⟩, ⟨by (with_reducible repeat (first | apply Kd.R_alloc | apply Kd.R_drewN | apply Kd.R_drew)); exact Kd.R_mono HO226.out (fun _ hk => hk.2)⟩, ⟨by (with_reducible repeat (first | apply Kd.R_alloc | apply Kd.R_drewN | apply Kd.R_drew)); exact Kd.R_mono HO229.out (fun _ hk => trivial)⟩, ⟨by (with_reducible repeat (first | apply Kd.R_alloc | apply Kd.R_drewN | apply Kd.R_drew)); exact Kd.R_mono HO233.out (fun _ hk => hk.2)⟩, ⟨by repeat (first | (with_reducible first | exact HB.out | apply below_alloc | apply pw_below_drewN | apply below_drew1) | exact HB.out)⟩⟩
      · replace c19 := Bool.eq_false_iff.mpr c19
        subst c19
        have H1 : (laws_FnExactSmallestTeam.j0 k l0 a1 t223 t224 t227 t230 t231 true) = some r := by rw [if_neg (show ¬ (false = true) by decide)] at H; exact H
        clear H
        have H := H1
        clear H1
        have H' := Aside0.mk H
        clear H
        obtain ⟨Ao22, co22, eo22⟩ := Kd.R_slice HO233.out
        subst eo22
        obtain ⟨Ao23, co23, eo23⟩ := Kd.R_slice HO226.out
        subst eo23
        go_wp2_with (first | ((with_reducible refine gate_callee (f := 19) rfl ?_); refine goesL_ (some 38) rfl rfl Tryd.func19 (by kernel_rfl) rfl #[.slice Ao22 t230.length co22, .slice Ao23 t223.length co23] rfl (by (try simp only [List.map_toArray, List.map_cons, List.map_nil]); first | done | rfl | (simp only [List.length_drop, List.length_take]; rfl)) ?_; (with_reducible refine (laws_eqIntS.calls k _ _ t230 _ _ t223 false _ ?side1 ?side2 ?side3 ?side4 A18.out).mono ?_); (case side1 => repeat (first | exact (Kd.R_reads' HO233.out).2.2 | (with_reducible refine Kd.C_alloc ?_ _) | (with_reducible refine Kd.C_drewN ?_ _) | (with_reducible refine Kd.C_drew ?_))); (case side2 => exact (Kd.R_reads' HO233.out).2.1); (case side3 => repeat (first | exact (Kd.R_reads' HO226.out).2.2 | (with_reducible refine Kd.C_alloc ?_ _) | (with_reducible refine Kd.C_drewN ?_ _) | (with_reducible refine Kd.C_drew ?_))); (case side4 => exact (Kd.R_reads' HO226.out).2.1); rintro e w' ⟨rfl, ⟨nd, rfl⟩⟩; refine ⟨_, rfl, ?_⟩))
        go_meet
        case rel => exact ⟨_, (true), (by first | rfl | (simp; done) | (simp [*]; done)), H', ⟨by first | omega | exact Nat.le_refl _⟩, ⟨by (with_reducible repeat (first | apply Kd.R_alloc | apply Kd.R_drewN | apply Kd.R_drew)); exact Kd.R_mono HO226.out (fun _ hk => hk.2)⟩, ⟨by (with_reducible repeat (first | apply Kd.R_alloc | apply Kd.R_drewN | apply Kd.R_drew)); exact Kd.R_mono HO229.out (fun _ hk => trivial)⟩, ⟨by (with_reducible repeat (first | apply Kd.R_alloc | apply Kd.R_drewN | apply Kd.R_drew)); exact Kd.R_mono HO233.out (fun _ hk => hk.2)⟩, ⟨by repeat (first | (with_reducible first | exact HB.out | apply below_alloc | apply pw_below_drewN | apply below_drew1) | exact HB.out)⟩⟩
    case rest =>
      clear HC10
      try clear c1
      try clear p2
      try clear c3
      try clear c4
      try clear c4b0
      try clear c10
      try clear c12
      try clear c14
      try clear c19
      obtain ⟨kq, x44_9, rfl, HA, HJ9, HO_6, HO_8, HO_9, HB⟩ := hcut
      cases kq with
      | zero => exact absurd HA.out (by simp [laws_FnExactSmallestTeam.j0])
      | succ kj9 =>
        have H := HA.out
        clear HA
        simp only [laws_FnExactSmallestTeam.j0] at H
        by_cases c24 : x44_9 = true
        · subst c24
          have H1 : (some false) = some r := by rw [if_pos rfl] at H; exact H
          clear H
          have H := H1
          clear H1
          obtain rfl := Option.some.inj H
          go_wp2
          go_ret
          exact ⟨by first | rfl | (simp [errW_none, errW_some] <;> rfl) | (simp [*, errW_none, errW_some] <;> rfl), by repeat (first | (with_reducible first | exact HB.out | apply below_alloc | apply pw_below_drewN | apply below_drew1) | exact HB.out)⟩
        · replace c24 := Bool.eq_false_iff.mpr c24
          subst c24
          have H1 : ((laws_toPersonS.f kj9 l0).bind fun t235 => ((laws_eqPersonS.f kj9 t227 t235).bind fun t238 => (if t238 = true then ((laws_markPersonS.f kj9 t227 1).bind fun bt239 => (if bt239.1 < 0 then (laws_FnExactSmallestTeam.j1 kj9 l0 a1 t223 t224 t230 true) else ((laws_eqIntS.f kj9 t230 t223).bind fun t241 => (if t241 = true then (laws_FnExactSmallestTeam.j1 kj9 l0 a1 t223 t224 t230 (t231 != t224)) else (laws_FnExactSmallestTeam.j1 kj9 l0 a1 t223 t224 t230 true))))) else (some false)))) = some r := by rw [if_neg (show ¬ (false = true) by decide)] at H; exact H
          clear H
          have H := H1
          clear H1
          replace H := Option.bind_eq_some_iff.mp H
          obtain ⟨t235, A250, H⟩ := H
          replace H : ((laws_eqPersonS.f kj9 t227 t235).bind fun t238 => (if t238 = true then ((laws_markPersonS.f kj9 t227 1).bind fun bt239 => (if bt239.1 < 0 then (laws_FnExactSmallestTeam.j1 kj9 l0 a1 t223 t224 t230 true) else ((laws_eqIntS.f kj9 t230 t223).bind fun t241 => (if t241 = true then (laws_FnExactSmallestTeam.j1 kj9 l0 a1 t223 t224 t230 (t231 != t224)) else (laws_FnExactSmallestTeam.j1 kj9 l0 a1 t223 t224 t230 true))))) else (some false))) = some r := H
          have A25 := Aside0.mk A250
          clear A250
          replace H := Option.bind_eq_some_iff.mp H
          obtain ⟨t238, A260, H⟩ := H
          replace H : (if t238 = true then ((laws_markPersonS.f kj9 t227 1).bind fun bt239 => (if bt239.1 < 0 then (laws_FnExactSmallestTeam.j1 kj9 l0 a1 t223 t224 t230 true) else ((laws_eqIntS.f kj9 t230 t223).bind fun t241 => (if t241 = true then (laws_FnExactSmallestTeam.j1 kj9 l0 a1 t223 t224 t230 (t231 != t224)) else (laws_FnExactSmallestTeam.j1 kj9 l0 a1 t223 t224 t230 true))))) else (some false)) = some r := H
          have A26 := Aside0.mk A260
          clear A260
          by_cases c27 : t238 = true
          · subst c27
            have H1 : ((laws_markPersonS.f kj9 t227 1).bind fun bt239 => (if bt239.1 < 0 then (laws_FnExactSmallestTeam.j1 kj9 l0 a1 t223 t224 t230 true) else ((laws_eqIntS.f kj9 t230 t223).bind fun t241 => (if t241 = true then (laws_FnExactSmallestTeam.j1 kj9 l0 a1 t223 t224 t230 (t231 != t224)) else (laws_FnExactSmallestTeam.j1 kj9 l0 a1 t223 t224 t230 true))))) = some r := by rw [if_pos rfl] at H; exact H
            clear H
            have H := H1
            clear H1
            replace H := Option.bind_eq_some_iff.mp H
            obtain ⟨⟨t239, t240⟩, A280, H⟩ := H
            replace H : (if t239 < 0 then (laws_FnExactSmallestTeam.j1 kj9 l0 a1 t223 t224 t230 true) else ((laws_eqIntS.f kj9 t230 t223).bind fun t241 => (if t241 = true then (laws_FnExactSmallestTeam.j1 kj9 l0 a1 t223 t224 t230 (t231 != t224)) else (laws_FnExactSmallestTeam.j1 kj9 l0 a1 t223 t224 t230 true)))) = some r := H
            have A28 := Aside0.mk A280
            clear A280
            have HC29 := Aside0.mk H
            clear H
            go_upto_region 14 with (first | ((with_reducible refine gate_callee (f := 14) rfl ?_); refine goesL_ (some 47) rfl rfl Tryd.func14 (by kernel_rfl) rfl #[.slice A0 l0.length c0] rfl (by (try simp only [List.map_toArray, List.map_cons, List.map_nil]); first | done | rfl | (simp only [List.length_drop, List.length_take]; rfl)) ?_; (with_reducible refine (laws_toPersonS.calls kj9 _ _ l0 t235 _ ?side1 ?side2 A25.out).mono ?_); (case side1 => repeat (first | exact (Kd.C_below HR0.out HB.out) | (with_reducible refine Kd.C_alloc ?_ _) | (with_reducible refine Kd.C_drewN ?_ _) | (with_reducible refine Kd.C_drew ?_))); (case side2 => exact HC0.out); rintro e w30 ⟨v236, rfl, ho0, hb⟩; refine ⟨_, rfl, ?_⟩; have n0_ := Aside0.mk (Kd.R_below (by (with_reducible repeat (first | apply Kd.R_alloc | apply Kd.R_drewN | apply Kd.R_drew)); exact HO_6.out) hb); have n1_ := Aside0.mk (Kd.R_elder' (by (with_reducible repeat (first | apply Kd.R_alloc | apply Kd.R_drewN | apply Kd.R_drew)); exact HO_8.out) (Kd.R_base ho0) hb); have n2_ := Aside0.mk (Kd.R_below (by (with_reducible repeat (first | apply Kd.R_alloc | apply Kd.R_drewN | apply Kd.R_drew)); exact HO_9.out) hb); have n3_ := Aside0.mk (Kd.R_lower (Kd.R_new' ho0 (Kd.R_lt (by (with_reducible repeat (first | apply Kd.R_alloc | apply Kd.R_drewN | apply Kd.R_drew)); exact HO_8.out))) (below_size (by repeat (first | (with_reducible first | exact HB.out | apply below_alloc | apply pw_below_drewN | apply below_drew1) | exact HB.out)))); have n4_ := Aside0.mk (below_step (by repeat (first | (with_reducible first | exact HB.out | apply below_alloc | apply pw_below_drewN | apply below_drew1) | exact HB.out)) hb); clear HO_6; clear HO_8; clear HO_9; clear HB; have HO_6 := n0_; have HO_8 := n1_; have HO_9 := n2_; have HO237 := n3_; have HB := n4_; clear n0_ n1_ n2_ n3_ n4_; (try clear hb); (try clear hb2); (try clear hk); (try clear hi); (try clear ho0); obtain ⟨Ao31, co31, eo31⟩ := Kd.R_slice HO237.out; subst eo31) | ((with_reducible refine gate_callee (f := 16) rfl ?_); refine goesL_ (some 48) rfl rfl Tryd.func16 (by kernel_rfl) rfl #[.slice Ao16 t227.length co16, .slice Ao31 t235.length co31] rfl (by (try simp only [List.map_toArray, List.map_cons, List.map_nil]); first | done | rfl | (simp only [List.length_drop, List.length_take]; rfl)) ?_; (with_reducible refine (laws_eqPersonS.calls kj9 _ _ t227 _ _ t235 true _ ?side1 ?side2 ?side3 ?side4 A26.out).mono ?_); (case side1 => repeat (first | exact (Kd.R_reads' HO_8.out).2.2 | (with_reducible refine Kd.C_alloc ?_ _) | (with_reducible refine Kd.C_drewN ?_ _) | (with_reducible refine Kd.C_drew ?_))); (case side2 => exact (Kd.R_reads' HO_8.out).2.1); (case side3 => repeat (first | exact (Kd.R_reads' HO237.out).2.2 | (with_reducible refine Kd.C_alloc ?_ _) | (with_reducible refine Kd.C_drewN ?_ _) | (with_reducible refine Kd.C_drew ?_))); (case side4 => exact (Kd.R_reads' HO237.out).2.1); rintro e w32 ⟨rfl, hb⟩; refine ⟨_, rfl, ?_⟩; have n0_ := Aside0.mk (Kd.R_below (by (with_reducible repeat (first | apply Kd.R_alloc | apply Kd.R_drewN | apply Kd.R_drew)); exact HO_6.out) hb); have n1_ := Aside0.mk (Kd.R_below (by (with_reducible repeat (first | apply Kd.R_alloc | apply Kd.R_drewN | apply Kd.R_drew)); exact HO_8.out) hb); have n2_ := Aside0.mk (Kd.R_below (by (with_reducible repeat (first | apply Kd.R_alloc | apply Kd.R_drewN | apply Kd.R_drew)); exact HO_9.out) hb); have n3_ := Aside0.mk (Kd.R_below (by (with_reducible repeat (first | apply Kd.R_alloc | apply Kd.R_drewN | apply Kd.R_drew)); exact HO237.out) hb); have n4_ := Aside0.mk (below_step (by repeat (first | (with_reducible first | exact HB.out | apply below_alloc | apply pw_below_drewN | apply below_drew1) | exact HB.out)) hb); clear HO_6; clear HO_8; clear HO_9; clear HO237; clear HB; have HO_6 := n0_; have HO_8 := n1_; have HO_9 := n2_; have HO237 := n3_; have HB := n4_; clear n0_ n1_ n2_ n3_ n4_; (try clear hb); (try clear hb2); (try clear hk); (try clear hi)) | ((with_reducible refine gate_callee (f := 20) rfl ?_); refine goesL_ (some 52) rfl rfl Tryd.func20 (by kernel_rfl) rfl #[.slice Ao16 t227.length co16, .int .i64 1] rfl (by (try simp only [List.map_toArray, List.map_cons, List.map_nil]); first | done | rfl | (simp only [List.length_drop, List.length_take]; rfl)) ?_; (with_reducible refine (laws_markPersonS.calls kj9 (fun k_ => some k_ = (.slice Ao16 t227.length co16 : Value).ownBlock) (.slice Ao16 t227.length co16) t227 1 t239 t240 w _ ?side1 ?side2 A28.out).mono ?_); (case side1 => repeat (first | (with_reducible first | exact HB.out | apply below_alloc | apply pw_below_drewN | apply below_drew1) | exact HB.out)); (case side2 => exact Kd.R_tight rfl HO_8.out); rintro e w33 ⟨rfl, hy0, hb, hkp⟩; refine ⟨_, rfl, ?_⟩; have n0_ := Aside0.mk (Kd.R_mono (ok' := fun k_ => some k_ ≠ (v232 : Value).ownBlock) (Kd.R_keptB ((Kd.R_apart' HO_6.out (Kd.R_typed HO_8.out) (by decide))) hkp (fun k_ hk_ hs_ => (hk_.2) hs_)) (fun k_ hk_ => hk_.1.1)); have n1_ := Aside0.mk (Kd.R_reok rfl hy0 (fun k_ e_ => HO_8.out.1 k_ e_)); have n2_ := Aside0.mk (Kd.R_mono (ok' := fun k_ => some k_ ≠ (v225 : Value).ownBlock) (Kd.R_keptB ((Kd.R_apart' HO_9.out (Kd.R_typed HO_8.out) (by decide))) hkp (fun k_ hk_ hs_ => (hk_.2) hs_)) (fun k_ hk_ => hk_.1.1)); have n3_ := Aside0.mk (Kd.R_mono (ok' := fun k_ => some k_ ≠ (.slice Ao16 t227.length co16 : Value).ownBlock) (Kd.R_keptB (HO237.out) hkp (fun k_ hk_ hs_ => (hk_.2) hs_)) (fun k_ hk_ => hk_.1.2)); have n4_ := Aside0.mk (hb); clear HO_6; clear HO_8; clear HO_9; clear HO237; clear HB; have HO_6 := n0_; have HO_8 := n1_; have HO_9 := n2_; have HO237 := n3_; have HB := n4_; clear n0_ n1_ n2_ n3_ n4_; (try clear hb); (try clear hkp); (try clear hy0)))
            (try simp only [Act.put, List.setIfInBounds_toArray, List.set_cons_zero, List.set_cons_succ])
            go_cut [65] (fun v65 wc => ∃ (kq : Nat) (x65_28 : Bool), v65 = .bool x65_28 ∧ Aside0 (laws_FnExactSmallestTeam.j1 kq l0 a1 t223 t224 t230 x65_28 = some r) ∧ Aside0 (kq ≤ kj9) ∧ Aside0 (Kd.R (Kd.int .i64) 3 wc w.heap.size (fun k_ => some k_ ≠ (v232 : Value).ownBlock) v225 t223) ∧ Aside0 (Kd.R (Kd.int .i64) 3 wc w.heap.size (fun k_ => some k_ ≠ (v225 : Value).ownBlock) v232 t230) ∧ Aside0 (Below w.heap.size w wc))
            case first =>
              have H := HC29.out
              clear HC29
              by_cases c34 : t239 < 0
              · rw [if_pos c34] at H
                have c34b0 : decide (t239 < 0) = true := decide_eq_true c34
                clear c34
                (first | rw [c34b0] | (simp only [i64_w, i32_w]; rw [c34b0]) | skip)
                have H' := Aside0.mk H
                clear H
                go_wp2
                go_meet
                case rel => exact ⟨_, (true), (by first | rfl | (simp; done) | (simp [*]; done)), H', ⟨by have := HJ9.out; first | omega | exact Nat.le_refl _⟩, ⟨by (with_reducible repeat (first | apply Kd.R_alloc | apply Kd.R_drewN | apply Kd.R_drew)); exact HO_6.out⟩, ⟨by (with_reducible repeat (first | apply Kd.R_alloc | apply Kd.R_drewN | apply Kd.R_drew)); exact HO_9.out⟩, ⟨by repeat (first | (with_reducible first | exact HB.out | apply below_alloc | apply pw_below_drewN | apply below_drew1) | exact HB.out)⟩⟩
              · rw [if_neg c34] at H
                have c34b0 : decide (t239 < 0) = false := decide_eq_false c34
                clear c34
                (first | rw [c34b0] | (simp only [i64_w, i32_w]; rw [c34b0]) | skip)
                replace H := Option.bind_eq_some_iff.mp H
                obtain ⟨t241, A350, H⟩ := H
                replace H : (if t241 = true then (laws_FnExactSmallestTeam.j1 kj9 l0 a1 t223 t224 t230 (t231 != t224)) else (laws_FnExactSmallestTeam.j1 kj9 l0 a1 t223 t224 t230 true)) = some r := H
                have A35 := Aside0.mk A350
                clear A350
                by_cases c36 : t241 = true
                · subst c36
                  have H1 : (laws_FnExactSmallestTeam.j1 kj9 l0 a1 t223 t224 t230 (t231 != t224)) = some r := by rw [if_pos rfl] at H; exact H
                  clear H
                  have H := H1
                  clear H1
                  have H' := Aside0.mk H
                  clear H
                  obtain ⟨Ao37, co37, eo37⟩ := Kd.R_slice HO_9.out
                  subst eo37
                  obtain ⟨Ao38, co38, eo38⟩ := Kd.R_slice HO_6.out
                  subst eo38
                  go_wp2_with (first | (go_at_call 19; (with_reducible refine (laws_eqIntS.calls kj9 _ _ t230 _ _ t223 true _ ?side1 ?side2 ?side3 ?side4 A35.out).mono ?_); (case side1 => repeat (first | exact (Kd.R_reads' HO_9.out).2.2 | (with_reducible refine Kd.C_alloc ?_ _) | (with_reducible refine Kd.C_drewN ?_ _) | (with_reducible refine Kd.C_drew ?_))); (case side2 => exact (Kd.R_reads' HO_9.out).2.1); (case side3 => repeat (first | exact (Kd.R_reads' HO_6.out).2.2 | (with_reducible refine Kd.C_alloc ?_ _) | (with_reducible refine Kd.C_drewN ?_ _) | (with_reducible refine Kd.C_drew ?_))); (case side4 => exact (Kd.R_reads' HO_6.out).2.1); rintro e w' ⟨rfl, ⟨nd, rfl⟩⟩))
                  go_meet
                  case rel => exact ⟨_, ((t231 != t224)), (by first | rfl | (simp; done) | (simp [*]; done)), H', ⟨by have := HJ9.out; first | omega | exact Nat.le_refl _⟩, ⟨by (with_reducible repeat (first | apply Kd.R_alloc | apply Kd.R_drewN | apply Kd.R_drew)); exact HO_6.out⟩, ⟨by (with_reducible repeat (first | apply Kd.R_alloc | apply Kd.R_drewN | apply Kd.R_drew)); exact HO_9.out⟩, ⟨by repeat (first | (with_reducible first | exact HB.out | apply below_alloc | apply pw_below_drewN | apply below_drew1) | exact HB.out)⟩⟩
                · replace c36 := Bool.eq_false_iff.mpr c36
                  subst c36
                  have H1 : (laws_FnExactSmallestTeam.j1 kj9 l0 a1 t223 t224 t230 true) = some r := by rw [if_neg (show ¬ (false = true) by decide)] at H; exact H
                  clear H
                  have H := H1
                  clear H1
                  have H' := Aside0.mk H
                  clear H
                  obtain ⟨Ao39, co39, eo39⟩ := Kd.R_slice HO_9.out
                  subst eo39
                  obtain ⟨Ao40, co40, eo40⟩ := Kd.R_slice HO_6.out
                  subst eo40
                  go_wp2_with (first | (go_at_call 19; (with_reducible refine (laws_eqIntS.calls kj9 _ _ t230 _ _ t223 false _ ?side1 ?side2 ?side3 ?side4 A35.out).mono ?_); (case side1 => repeat (first | exact (Kd.R_reads' HO_9.out).2.2 | (with_reducible refine Kd.C_alloc ?_ _) | (with_reducible refine Kd.C_drewN ?_ _) | (with_reducible refine Kd.C_drew ?_))); (case side2 => exact (Kd.R_reads' HO_9.out).2.1); (case side3 => repeat (first | exact (Kd.R_reads' HO_6.out).2.2 | (with_reducible refine Kd.C_alloc ?_ _) | (with_reducible refine Kd.C_drewN ?_ _) | (with_reducible refine Kd.C_drew ?_))); (case side4 => exact (Kd.R_reads' HO_6.out).2.1); rintro e w' ⟨rfl, ⟨nd, rfl⟩⟩))
                  go_meet
                  case rel => exact ⟨_, (true), (by first | rfl | (simp; done) | (simp [*]; done)), H', ⟨by have := HJ9.out; first | omega | exact Nat.le_refl _⟩, ⟨by (with_reducible repeat (first | apply Kd.R_alloc | apply Kd.R_drewN | apply Kd.R_drew)); exact HO_6.out⟩, ⟨by (with_reducible repeat (first | apply Kd.R_alloc | apply Kd.R_drewN | apply Kd.R_drew)); exact HO_9.out⟩, ⟨by repeat (first | (with_reducible first | exact HB.out | apply below_alloc | apply pw_below_drewN | apply below_drew1) | exact HB.out)⟩⟩
            case rest =>
              clear HC29
              try clear c1
              try clear c2
              try clear p2
              try clear c3
              try clear c4
              try clear c4b0
              try clear c10
              try clear c12
              try clear c14
              try clear c16
              try clear c19
              try clear c20
              try clear c24
              try clear c27
              try clear c34
              try clear c34b0
              try clear c35
              try clear c36
              try clear p2
              obtain ⟨kq, x65_28, rfl, HA, HJ28, HO_6, HO_9, HB⟩ := hcut
              cases kq with
              | zero => exact absurd HA.out (by simp [laws_FnExactSmallestTeam.j1])
              | succ kj28 =>
                have H := HA.out
                clear HA
                simp only [laws_FnExactSmallestTeam.j1] at H
                by_cases c41 : x65_28 = true
                · subst c41
                  have H1 : (some false) = some r := by rw [if_pos rfl] at H; exact H
                  clear H
                  have H := H1
                  clear H1
                  obtain rfl := Option.some.inj H
                  go_wp2
                  go_ret
                  exact ⟨by first | rfl | (simp [errW_none, errW_some] <;> rfl) | (simp [*, errW_none, errW_some] <;> rfl), by repeat (first | (with_reducible first | exact HB.out | apply below_alloc | apply pw_below_drewN | apply below_drew1) | exact HB.out)⟩
                · replace c41 := Bool.eq_false_iff.mpr c41
                  subst c41
                  have H1 : ((laws_markIntS.f kj28 t230 1).bind fun bt242 => ((laws_heldIntS.f kj28 bt242.2 1).bind fun t244 => (if t244 < 0 then (some false) else (if t244 = bt242.1 then ((laws_toPersonS.f kj28 l0).bind fun t245 => ((impl_SmallestTeam.f kj28 t245 a1).bind fun bt248 => ((laws_eqIntS.f kj28 bt248.1 t223).bind fun t252 => (if t252 = true then (laws_FnExactSmallestTeam.j2 kj28 bt242.2 bt242.1 (bt248.2 != t224)) else (laws_FnExactSmallestTeam.j2 kj28 bt242.2 bt242.1 true))))) else (some false))))) = some r := by rw [if_neg (show ¬ (false = true) by decide)] at H; exact H
                  clear H
                  have H := H1
                  clear H1
                  replace H := Option.bind_eq_some_iff.mp H
                  obtain ⟨⟨t242, t243⟩, A420, H⟩ := H
                  replace H : ((laws_heldIntS.f kj28 t243 1).bind fun t244 => (if t244 < 0 then (some false) else (if t244 = t242 then ((laws_toPersonS.f kj28 l0).bind fun t245 => ((impl_SmallestTeam.f kj28 t245 a1).bind fun bt248 => ((laws_eqIntS.f kj28 bt248.1 t223).bind fun t252 => (if t252 = true then (laws_FnExactSmallestTeam.j2 kj28 t243 t242 (bt248.2 != t224)) else (laws_FnExactSmallestTeam.j2 kj28 t243 t242 true))))) else (some false)))) = some r := H
                  have A42 := Aside0.mk A420
                  clear A420
                  replace H := Option.bind_eq_some_iff.mp H
                  obtain ⟨t244, A430, H⟩ := H
                  replace H : (if t244 < 0 then (some false) else (if t244 = t242 then ((laws_toPersonS.f kj28 l0).bind fun t245 => ((impl_SmallestTeam.f kj28 t245 a1).bind fun bt248 => ((laws_eqIntS.f kj28 bt248.1 t223).bind fun t252 => (if t252 = true then (laws_FnExactSmallestTeam.j2 kj28 t243 t242 (bt248.2 != t224)) else (laws_FnExactSmallestTeam.j2 kj28 t243 t242 true))))) else (some false))) = some r := H
                  have A43 := Aside0.mk A430
                  clear A430
                  by_cases c44 : t244 < 0
                  · rw [if_pos c44] at H
                    have c44b0 : decide (t244 < 0) = true := decide_eq_true c44
                    clear c44
                    obtain rfl := Option.some.inj H
                    obtain ⟨Ao45, co45, eo45⟩ := Kd.R_slice HO_9.out
                    subst eo45
                    go_wp2_with (first | ((with_reducible refine gate_callee (f := 21) rfl ?_); refine goesL_ (some 68) rfl rfl Tryd.func21 (by kernel_rfl) rfl #[.slice Ao45 t230.length co45, .int .i64 1] rfl (by (try simp only [List.map_toArray, List.map_cons, List.map_nil]); first | done | rfl | (simp only [List.length_drop, List.length_take]; rfl)) ?_; (with_reducible refine (laws_markIntS.calls kj28 (fun k_ => some k_ = (.slice Ao45 t230.length co45 : Value).ownBlock) (.slice Ao45 t230.length co45) t230 1 t242 t243 w _ ?side1 ?side2 A42.out).mono ?_); (case side1 => repeat (first | (with_reducible first | exact HB.out | apply below_alloc | apply pw_below_drewN | apply below_drew1) | exact HB.out)); (case side2 => exact Kd.R_tight rfl HO_9.out); rintro e w46 ⟨rfl, hy0, hb, hkp⟩; refine ⟨_, rfl, ?_⟩; have n0_ := Aside0.mk (Kd.R_mono (ok' := fun k_ => some k_ ≠ (.slice Ao45 t230.length co45 : Value).ownBlock) (Kd.R_keptB (HO_6.out) hkp (fun k_ hk_ hs_ => (hk_) hs_)) (fun k_ hk_ => hk_.1)); have n1_ := Aside0.mk (Kd.R_reok rfl hy0 (fun k_ e_ => HO_9.out.1 k_ e_)); have n2_ := Aside0.mk (hb); clear HO_6; clear HO_9; clear HB; have HO_6 := n0_; have HO_9 := n1_; have HB := n2_; clear n0_ n1_ n2_; (try clear hb); (try clear hkp); (try clear hy0)) | ((with_reducible refine gate_callee (f := 22) rfl ?_); refine goesL_ (some 71) rfl rfl Tryd.func22 (by kernel_rfl) rfl #[.slice Ao45 t243.length co45, .int .i64 1] rfl (by (try simp only [List.map_toArray, List.map_cons, List.map_nil]); first | done | (rw [show t243.length = t230.length from (Kd.R_reads' HO_9.out).1.symm] <;> rfl) | rfl | (simp only [List.length_drop, List.length_take]; rfl)) ?_; (with_reducible refine (laws_heldIntS.calls kj28 _ _ t243 1 t244 _ ?side1 ?side2 A43.out).mono ?_); (case side1 => repeat (first | exact (Kd.R_reads' HO_9.out).2.2 | (with_reducible refine Kd.C_alloc ?_ _) | (with_reducible refine Kd.C_drewN ?_ _) | (with_reducible refine Kd.C_drew ?_))); (case side2 => rw [show t243.length = t230.length from (Kd.R_reads' HO_9.out).1.symm]; exact (Kd.R_reads' HO_9.out).2.1); rintro e w' ⟨rfl, ⟨nd, rfl⟩⟩; refine ⟨_, rfl, ?_⟩))
                    go_ret
                    exact ⟨by first | rfl | (simp [errW_none, errW_some] <;> rfl) | (simp [*, errW_none, errW_some] <;> rfl), by repeat (first | (with_reducible first | exact HB.out | apply below_alloc | apply pw_below_drewN | apply below_drew1) | exact HB.out)⟩
                  · rw [if_neg c44] at H
                    have c44b0 : decide (t244 < 0) = false := decide_eq_false c44
                    clear c44
                    by_cases c47 : t244 = t242
                    · rw [if_pos c47] at H
                      have c47b0 : (t244 == t242) = true := beq_iff_eq.mpr c47
                      have c47b1 : (t244 != t242) = false := bne_eq_false_iff_eq.mpr c47
                      clear c47
                      replace H := Option.bind_eq_some_iff.mp H
                      obtain ⟨t245, A480, H⟩ := H
                      replace H : ((impl_SmallestTeam.f kj28 t245 a1).bind fun bt248 => ((laws_eqIntS.f kj28 bt248.1 t223).bind fun t252 => (if t252 = true then (laws_FnExactSmallestTeam.j2 kj28 t243 t242 (bt248.2 != t224)) else (laws_FnExactSmallestTeam.j2 kj28 t243 t242 true)))) = some r := H
                      have A48 := Aside0.mk A480
                      clear A480
                      replace H := Option.bind_eq_some_iff.mp H
                      obtain ⟨⟨t248, t249⟩, A490, H⟩ := H
                      replace H : ((laws_eqIntS.f kj28 t248 t223).bind fun t252 => (if t252 = true then (laws_FnExactSmallestTeam.j2 kj28 t243 t242 (t249 != t224)) else (laws_FnExactSmallestTeam.j2 kj28 t243 t242 true))) = some r := H
                      have A49 := Aside0.mk A490
                      clear A490
                      have HC50 := Aside0.mk H
                      clear H
                      obtain ⟨Ao51, co51, eo51⟩ := Kd.R_slice HO_9.out
                      subst eo51
                      go_upto_region 25 with (first | ((with_reducible refine gate_callee (f := 21) rfl ?_); refine goesL_ (some 68) rfl rfl Tryd.func21 (by kernel_rfl) rfl #[.slice Ao51 t230.length co51, .int .i64 1] rfl (by (try simp only [List.map_toArray, List.map_cons, List.map_nil]); first | done | rfl | (simp only [List.length_drop, List.length_take]; rfl)) ?_; (with_reducible refine (laws_markIntS.calls kj28 (fun k_ => some k_ = (.slice Ao51 t230.length co51 : Value).ownBlock) (.slice Ao51 t230.length co51) t230 1 t242 t243 w _ ?side1 ?side2 A42.out).mono ?_); (case side1 => repeat (first | (with_reducible first | exact HB.out | apply below_alloc | apply pw_below_drewN | apply below_drew1) | exact HB.out)); (case side2 => exact Kd.R_tight rfl HO_9.out); rintro e w52 ⟨rfl, hy0, hb, hkp⟩; refine ⟨_, rfl, ?_⟩; have n0_ := Aside0.mk (Kd.R_mono (ok' := fun k_ => some k_ ≠ (.slice Ao51 t230.length co51 : Value).ownBlock) (Kd.R_keptB (HO_6.out) hkp (fun k_ hk_ hs_ => (hk_) hs_)) (fun k_ hk_ => hk_.1)); have n1_ := Aside0.mk (Kd.R_reok rfl hy0 (fun k_ e_ => HO_9.out.1 k_ e_)); have n2_ := Aside0.mk (hb); clear HO_6; clear HO_9; clear HB; have HO_6 := n0_; have HO_9 := n1_; have HB := n2_; clear n0_ n1_ n2_; (try clear hb); (try clear hkp); (try clear hy0)) | ((with_reducible refine gate_callee (f := 22) rfl ?_); refine goesL_ (some 71) rfl rfl Tryd.func22 (by kernel_rfl) rfl #[.slice Ao51 t243.length co51, .int .i64 1] rfl (by (try simp only [List.map_toArray, List.map_cons, List.map_nil]); first | done | (rw [show t243.length = t230.length from (Kd.R_reads' HO_9.out).1.symm] <;> rfl) | rfl | (simp only [List.length_drop, List.length_take]; rfl)) ?_; (with_reducible refine (laws_heldIntS.calls kj28 _ _ t243 1 t244 _ ?side1 ?side2 A43.out).mono ?_); (case side1 => repeat (first | exact (Kd.R_reads' HO_9.out).2.2 | (with_reducible refine Kd.C_alloc ?_ _) | (with_reducible refine Kd.C_drewN ?_ _) | (with_reducible refine Kd.C_drew ?_))); (case side2 => rw [show t243.length = t230.length from (Kd.R_reads' HO_9.out).1.symm]; exact (Kd.R_reads' HO_9.out).2.1); rintro e w' ⟨rfl, ⟨nd, rfl⟩⟩; refine ⟨_, rfl, ?_⟩) | ((with_reducible refine gate_callee (f := 14) rfl ?_); refine goesL_ (some 79) rfl rfl Tryd.func14 (by kernel_rfl) rfl #[.slice A0 l0.length c0] rfl (by (try simp only [List.map_toArray, List.map_cons, List.map_nil]); first | done | rfl | (simp only [List.length_drop, List.length_take]; rfl)) ?_; (with_reducible refine (laws_toPersonS.calls kj28 _ _ l0 t245 _ ?side1 ?side2 A48.out).mono ?_); (case side1 => repeat (first | exact (Kd.C_below HR0.out (by repeat (first | (with_reducible first | exact HB.out | apply below_alloc | apply pw_below_drewN | apply below_drew1) | exact HB.out))) | (with_reducible refine Kd.C_alloc ?_ _) | (with_reducible refine Kd.C_drewN ?_ _) | (with_reducible refine Kd.C_drew ?_))); (case side2 => exact HC0.out); rintro e w53 ⟨v246, rfl, ho0, hb⟩; refine ⟨_, rfl, ?_⟩; have n0_ := Aside0.mk (Kd.R_below (by (with_reducible repeat (first | apply Kd.R_alloc | apply Kd.R_drewN | apply Kd.R_drew)); exact HO_6.out) hb); have n1_ := Aside0.mk (Kd.R_below (by (with_reducible repeat (first | apply Kd.R_alloc | apply Kd.R_drewN | apply Kd.R_drew)); exact HO_9.out) hb); have n2_ := Aside0.mk (Kd.R_lower ho0 (below_size (by repeat (first | (with_reducible first | exact HB.out | apply below_alloc | apply pw_below_drewN | apply below_drew1) | exact HB.out)))); have n3_ := Aside0.mk (below_step (by repeat (first | (with_reducible first | exact HB.out | apply below_alloc | apply pw_below_drewN | apply below_drew1) | exact HB.out)) hb); clear HO_6; clear HO_9; clear HB; have HO_6 := n0_; have HO_9 := n1_; have HO247 := n2_; have HB := n3_; clear n0_ n1_ n2_ n3_; (try clear hb); (try clear hb2); (try clear hk); (try clear hi); (try clear ho0); obtain ⟨Ao54, co54, eo54⟩ := Kd.R_slice HO247.out; subst eo54) | ((with_reducible refine gate_callee (f := 36) rfl ?_); refine goesL_ (some 81) rfl rfl Tryd.func36 (by kernel_rfl) rfl #[.slice Ao54 t245.length co54, .int .i64 a1] rfl (by (try simp only [List.map_toArray, List.map_cons, List.map_nil]); first | done | rfl | (simp only [List.length_drop, List.length_take]; rfl)) ?_; (with_reducible refine (impl_SmallestTeam.calls kj28 _ _ t245 a1 t248 t249 _ ?side1 ?side2 A49.out).mono ?_); (case side1 => repeat (first | exact (Kd.R_reads' HO247.out).2.2 | (with_reducible refine Kd.C_alloc ?_ _) | (with_reducible refine Kd.C_drewN ?_ _) | (with_reducible refine Kd.C_drew ?_))); (case side2 => exact (Kd.R_reads' HO247.out).2.1); rintro e w55 ⟨v250, rfl, ho0, hb⟩; refine ⟨_, rfl, ?_⟩; have n0_ := Aside0.mk (Kd.R_elder' (by (with_reducible repeat (first | apply Kd.R_alloc | apply Kd.R_drewN | apply Kd.R_drew)); exact HO_6.out) (Kd.R_base ho0) hb); have n1_ := Aside0.mk (Kd.R_elder' (by (with_reducible repeat (first | apply Kd.R_alloc | apply Kd.R_drewN | apply Kd.R_drew)); exact HO_9.out) (Kd.R_base ho0) hb); have n2_ := Aside0.mk (Kd.R_below (by (with_reducible repeat (first | apply Kd.R_alloc | apply Kd.R_drewN | apply Kd.R_drew)); exact HO247.out) hb); have n3_ := Aside0.mk (Kd.R_lower (Kd.R_new' (Kd.R_new' ho0 (Kd.R_lt (by (with_reducible repeat (first | apply Kd.R_alloc | apply Kd.R_drewN | apply Kd.R_drew)); exact HO_6.out))) (Kd.R_lt (by (with_reducible repeat (first | apply Kd.R_alloc | apply Kd.R_drewN | apply Kd.R_drew)); exact HO_9.out))) (below_size (by repeat (first | (with_reducible first | exact HB.out | apply below_alloc | apply pw_below_drewN | apply below_drew1) | exact HB.out)))); have n4_ := Aside0.mk (below_step (by repeat (first | (with_reducible first | exact HB.out | apply below_alloc | apply pw_below_drewN | apply below_drew1) | exact HB.out)) hb); clear HO_6; clear HO_9; clear HO247; clear HB; have HO_6 := n0_; have HO_9 := n1_; have HO247 := n2_; have HO251 := n3_; have HB := n4_; clear n0_ n1_ n2_ n3_ n4_; (try clear hb); (try clear hb2); (try clear hk); (try clear hi); (try clear ho0)))
                      (try simp only [Act.put, List.setIfInBounds_toArray, List.set_cons_zero, List.set_cons_succ])
                      go_cut [92] (fun v92 wc => ∃ (kq : Nat) (x92_49 : Bool), v92 = .bool x92_49 ∧ Aside0 (laws_FnExactSmallestTeam.j2 kq t243 t242 x92_49 = some r) ∧ Aside0 (kq ≤ kj28) ∧ Aside0 (Kd.R (Kd.int .i64) 3 wc w.heap.size (fun _ => True) (.slice Ao51 t230.length co51) t243) ∧ Aside0 (Below w.heap.size w wc))
                      case first =>
                        have H := HC50.out
                        clear HC50
                        replace H := Option.bind_eq_some_iff.mp H
                        obtain ⟨t252, A560, H⟩ := H
                        replace H : (if t252 = true then (laws_FnExactSmallestTeam.j2 kj28 t243 t242 (t249 != t224)) else (laws_FnExactSmallestTeam.j2 kj28 t243 t242 true)) = some r := H
                        have A56 := Aside0.mk A560
                        clear A560
                        by_cases c57 : t252 = true
                        · subst c57
                          have H1 : (laws_FnExactSmallestTeam.j2 kj28 t243 t242 (t249 != t224)) = some r := by rw [if_pos rfl] at H; exact H
                          clear H
                          have H := H1
                          clear H1
                          have H' := Aside0.mk H
                          clear H
                          obtain ⟨Ao58, co58, eo58⟩ := Kd.R_slice HO251.out
                          subst eo58
                          obtain ⟨Ao59, co59, eo59⟩ := Kd.R_slice HO_6.out
                          subst eo59
                          go_wp2_with (first | ((with_reducible refine gate_callee (f := 19) rfl ?_); refine goesL_ (some 86) rfl rfl Tryd.func19 (by kernel_rfl) rfl #[.slice Ao58 t248.length co58, .slice Ao59 t223.length co59] rfl (by (try simp only [List.map_toArray, List.map_cons, List.map_nil]); first | done | rfl | (simp only [List.length_drop, List.length_take]; rfl)) ?_; (with_reducible refine (laws_eqIntS.calls kj28 _ _ t248 _ _ t223 true _ ?side1 ?side2 ?side3 ?side4 A56.out).mono ?_); (case side1 => repeat (first | exact (Kd.R_reads' HO251.out).2.2 | (with_reducible refine Kd.C_alloc ?_ _) | (with_reducible refine Kd.C_drewN ?_ _) | (with_reducible refine Kd.C_drew ?_))); (case side2 => exact (Kd.R_reads' HO251.out).2.1); (case side3 => repeat (first | exact (Kd.R_reads' HO_6.out).2.2 | (with_reducible refine Kd.C_alloc ?_ _) | (with_reducible refine Kd.C_drewN ?_ _) | (with_reducible refine Kd.C_drew ?_))); (case side4 => exact (Kd.R_reads' HO_6.out).2.1); rintro e w' ⟨rfl, ⟨nd, rfl⟩⟩; refine ⟨_, rfl, ?_⟩))
                          go_meet
                          case rel => exact ⟨_, ((t249 != t224)), (by first | rfl | (simp; done) | (simp [*]; done)), H', ⟨by have := HJ9.out; have := HJ28.out; first | omega | exact Nat.le_refl _⟩, ⟨by (with_reducible repeat (first | apply Kd.R_alloc | apply Kd.R_drewN | apply Kd.R_drew)); exact Kd.R_mono HO_9.out (fun _ hk => trivial)⟩, ⟨by repeat (first | (with_reducible first | exact HB.out | apply below_alloc | apply pw_below_drewN | apply below_drew1) | exact HB.out)⟩⟩
                        · replace c57 := Bool.eq_false_iff.mpr c57
                          subst c57
                          have H1 : (laws_FnExactSmallestTeam.j2 kj28 t243 t242 true) = some r := by rw [if_neg (show ¬ (false = true) by decide)] at H; exact H
                          clear H
                          have H := H1
                          clear H1
                          have H' := Aside0.mk H
                          clear H
                          obtain ⟨Ao60, co60, eo60⟩ := Kd.R_slice HO251.out
                          subst eo60
                          obtain ⟨Ao61, co61, eo61⟩ := Kd.R_slice HO_6.out
                          subst eo61
                          go_wp2_with (first | ((with_reducible refine gate_callee (f := 19) rfl ?_); refine goesL_ (some 86) rfl rfl Tryd.func19 (by kernel_rfl) rfl #[.slice Ao60 t248.length co60, .slice Ao61 t223.length co61] rfl (by (try simp only [List.map_toArray, List.map_cons, List.map_nil]); first | done | rfl | (simp only [List.length_drop, List.length_take]; rfl)) ?_; (with_reducible refine (laws_eqIntS.calls kj28 _ _ t248 _ _ t223 false _ ?side1 ?side2 ?side3 ?side4 A56.out).mono ?_); (case side1 => repeat (first | exact (Kd.R_reads' HO251.out).2.2 | (with_reducible refine Kd.C_alloc ?_ _) | (with_reducible refine Kd.C_drewN ?_ _) | (with_reducible refine Kd.C_drew ?_))); (case side2 => exact (Kd.R_reads' HO251.out).2.1); (case side3 => repeat (first | exact (Kd.R_reads' HO_6.out).2.2 | (with_reducible refine Kd.C_alloc ?_ _) | (with_reducible refine Kd.C_drewN ?_ _) | (with_reducible refine Kd.C_drew ?_))); (case side4 => exact (Kd.R_reads' HO_6.out).2.1); rintro e w' ⟨rfl, ⟨nd, rfl⟩⟩; refine ⟨_, rfl, ?_⟩))
                          go_meet
                          case rel => exact ⟨_, (true), (by first | rfl | (simp; done) | (simp [*]; done)), H', ⟨by have := HJ9.out; have := HJ28.out; first | omega | exact Nat.le_refl _⟩, ⟨by (with_reducible repeat (first | apply Kd.R_alloc | apply Kd.R_drewN | apply Kd.R_drew)); exact Kd.R_mono HO_9.out (fun _ hk => trivial)⟩, ⟨by repeat (first | (with_reducible first | exact HB.out | apply below_alloc | apply pw_below_drewN | apply below_drew1) | exact HB.out)⟩⟩
                      case rest =>
                        clear HC50
                        try clear c1
                        try clear c2
                        try clear p2
                        try clear c3
                        try clear c4
                        try clear c4b0
                        try clear c5
                        try clear c10
                        try clear c12
                        try clear c14
                        try clear c16
                        try clear c19
                        try clear c20
                        try clear c21
                        try clear c22
                        try clear c24
                        try clear c27
                        try clear c34
                        try clear c34b0
                        try clear c35
                        try clear c36
                        try clear c41
                        try clear c44
                        try clear c44b0
                        try clear c47
                        try clear c47b0
                        try clear c47b1
                        try clear c57
                        try clear p2
                        obtain ⟨kq, x92_49, rfl, HA, HJ49, HO_9, HB⟩ := hcut
                        have hl9_49 := (Kd.R_reads' HO_9.out).1
                        rw [hl9_49] at HO_9
                        (try simp only [hl9_49])
                        cases kq with
                        | zero => exact absurd HA.out (by simp [laws_FnExactSmallestTeam.j2])
                        | succ kj49 =>
                          have H := HA.out
                          clear HA
                          simp only [laws_FnExactSmallestTeam.j2] at H
                          by_cases c62 : x92_49 = true
                          · subst c62
                            have H1 : (some false) = some r := by rw [if_pos rfl] at H; exact H
                            clear H
                            have H := H1
                            clear H1
                            obtain rfl := Option.some.inj H
                            go_wp2
                            go_ret
                            exact ⟨by first | rfl | (simp [errW_none, errW_some] <;> rfl) | (simp [*, errW_none, errW_some] <;> rfl), by repeat (first | (with_reducible first | exact HB.out | apply below_alloc | apply pw_below_drewN | apply below_drew1) | exact HB.out)⟩
                          · replace c62 := Bool.eq_false_iff.mpr c62
                            subst c62
                            have H1 : ((laws_heldIntS.f kj49 t243 1).bind fun t253 => (if t253 < 0 then (some false) else (if t253 = t242 then (some true) else (some false)))) = some r := by rw [if_neg (show ¬ (false = true) by decide)] at H; exact H
                            clear H
                            have H := H1
                            clear H1
                            replace H := Option.bind_eq_some_iff.mp H
                            obtain ⟨t253, A630, H⟩ := H
                            replace H : (if t253 < 0 then (some false) else (if t253 = t242 then (some true) else (some false))) = some r := H
                            have A63 := Aside0.mk A630
                            clear A630
                            by_cases c64 : t253 < 0
                            · rw [if_pos c64] at H
                              have c64b0 : decide (t253 < 0) = true := decide_eq_true c64
                              clear c64
                              obtain rfl := Option.some.inj H
                              go_wp2_with (first | ((with_reducible refine gate_callee (f := 22) rfl ?_); refine goesL_ (some 95) rfl rfl Tryd.func22 (by kernel_rfl) rfl #[.slice Ao51 t243.length co51, .int .i64 1] rfl (by (try simp only [List.map_toArray, List.map_cons, List.map_nil]); first | done | rfl | (simp only [List.length_drop, List.length_take]; rfl)) ?_; (with_reducible refine (laws_heldIntS.calls kj49 _ _ t243 1 t253 _ ?side1 ?side2 A63.out).mono ?_); (case side1 => repeat (first | exact (Kd.R_reads' HO_9.out).2.2 | (with_reducible refine Kd.C_alloc ?_ _) | (with_reducible refine Kd.C_drewN ?_ _) | (with_reducible refine Kd.C_drew ?_))); (case side2 => exact (Kd.R_reads' HO_9.out).2.1); rintro e w' ⟨rfl, ⟨nd, rfl⟩⟩; refine ⟨_, rfl, ?_⟩))
                              go_ret
                              exact ⟨by first | rfl | (simp [errW_none, errW_some] <;> rfl) | (simp [*, errW_none, errW_some] <;> rfl), by repeat (first | (with_reducible first | exact HB.out | apply below_alloc | apply pw_below_drewN | apply below_drew1) | exact HB.out)⟩
                            · rw [if_neg c64] at H
                              have c64b0 : decide (t253 < 0) = false := decide_eq_false c64
                              clear c64
                              by_cases c65 : t253 = t242
                              · rw [if_pos c65] at H
                                have c65b0 : (t253 == t242) = true := beq_iff_eq.mpr c65
                                have c65b1 : (t253 != t242) = false := bne_eq_false_iff_eq.mpr c65
                                clear c65
                                obtain rfl := Option.some.inj H
                                go_wp2_with (first | ((with_reducible refine gate_callee (f := 22) rfl ?_); refine goesL_ (some 95) rfl rfl Tryd.func22 (by kernel_rfl) rfl #[.slice Ao51 t243.length co51, .int .i64 1] rfl (by (try simp only [List.map_toArray, List.map_cons, List.map_nil]); first | done | rfl | (simp only [List.length_drop, List.length_take]; rfl)) ?_; (with_reducible refine (laws_heldIntS.calls kj49 _ _ t243 1 t253 _ ?side1 ?side2 A63.out).mono ?_); (case side1 => repeat (first | exact (Kd.R_reads' HO_9.out).2.2 | (with_reducible refine Kd.C_alloc ?_ _) | (with_reducible refine Kd.C_drewN ?_ _) | (with_reducible refine Kd.C_drew ?_))); (case side2 => exact (Kd.R_reads' HO_9.out).2.1); rintro e w' ⟨rfl, ⟨nd, rfl⟩⟩; refine ⟨_, rfl, ?_⟩))
                                go_ret
                                exact ⟨by first | rfl | (simp [errW_none, errW_some] <;> rfl) | (simp [*, errW_none, errW_some] <;> rfl), by repeat (first | (with_reducible first | exact HB.out | apply below_alloc | apply pw_below_drewN | apply below_drew1) | exact HB.out)⟩
                              · rw [if_neg c65] at H
                                have c65b0 : (t253 == t242) = false := beq_eq_false_iff_ne.mpr c65
                                have c65b1 : (t253 != t242) = true := bne_iff_ne.mpr c65
                                obtain rfl := Option.some.inj H
                                go_wp2_with (first | ((with_reducible refine gate_callee (f := 22) rfl ?_); refine goesL_ (some 95) rfl rfl Tryd.func22 (by kernel_rfl) rfl #[.slice Ao51 t243.length co51, .int .i64 1] rfl (by (try simp only [List.map_toArray, List.map_cons, List.map_nil]); first | done | rfl | (simp only [List.length_drop, List.length_take]; rfl)) ?_; (with_reducible refine (laws_heldIntS.calls kj49 _ _ t243 1 t253 _ ?side1 ?side2 A63.out).mono ?_); (case side1 => repeat (first | exact (Kd.R_reads' HO_9.out).2.2 | (with_reducible refine Kd.C_alloc ?_ _) | (with_reducible refine Kd.C_drewN ?_ _) | (with_reducible refine Kd.C_drew ?_))); (case side2 => exact (Kd.R_reads' HO_9.out).2.1); rintro e w' ⟨rfl, ⟨nd, rfl⟩⟩; refine ⟨_, rfl, ?_⟩))
                                go_ret
                                exact ⟨by first | rfl | (simp [errW_none, errW_some] <;> rfl) | (simp [*, errW_none, errW_some] <;> rfl), by repeat (first | (with_reducible first | exact HB.out | apply below_alloc | apply pw_below_drewN | apply below_drew1) | exact HB.out)⟩
                    · rw [if_neg c47] at H
                      have c47b0 : (t244 == t242) = false := beq_eq_false_iff_ne.mpr c47
                      have c47b1 : (t244 != t242) = true := bne_iff_ne.mpr c47
                      obtain rfl := Option.some.inj H
                      obtain ⟨Ao66, co66, eo66⟩ := Kd.R_slice HO_9.out
                      subst eo66
                      go_wp2_with (first | ((with_reducible refine gate_callee (f := 21) rfl ?_); refine goesL_ (some 68) rfl rfl Tryd.func21 (by kernel_rfl) rfl #[.slice Ao66 t230.length co66, .int .i64 1] rfl (by (try simp only [List.map_toArray, List.map_cons, List.map_nil]); first | done | rfl | (simp only [List.length_drop, List.length_take]; rfl)) ?_; (with_reducible refine (laws_markIntS.calls kj28 (fun k_ => some k_ = (.slice Ao66 t230.length co66 : Value).ownBlock) (.slice Ao66 t230.length co66) t230 1 t242 t243 w _ ?side1 ?side2 A42.out).mono ?_); (case side1 => repeat (first | (with_reducible first | exact HB.out | apply below_alloc | apply pw_below_drewN | apply below_drew1) | exact HB.out)); (case side2 => exact Kd.R_tight rfl HO_9.out); rintro e w67 ⟨rfl, hy0, hb, hkp⟩; refine ⟨_, rfl, ?_⟩; have n0_ := Aside0.mk (Kd.R_mono (ok' := fun k_ => some k_ ≠ (.slice Ao66 t230.length co66 : Value).ownBlock) (Kd.R_keptB (HO_6.out) hkp (fun k_ hk_ hs_ => (hk_) hs_)) (fun k_ hk_ => hk_.1)); have n1_ := Aside0.mk (Kd.R_reok rfl hy0 (fun k_ e_ => HO_9.out.1 k_ e_)); have n2_ := Aside0.mk (hb); clear HO_6; clear HO_9; clear HB; have HO_6 := n0_; have HO_9 := n1_; have HB := n2_; clear n0_ n1_ n2_; (try clear hb); (try clear hkp); (try clear hy0)) | ((with_reducible refine gate_callee (f := 22) rfl ?_); refine goesL_ (some 71) rfl rfl Tryd.func22 (by kernel_rfl) rfl #[.slice Ao66 t243.length co66, .int .i64 1] rfl (by (try simp only [List.map_toArray, List.map_cons, List.map_nil]); first | done | (rw [show t243.length = t230.length from (Kd.R_reads' HO_9.out).1.symm] <;> rfl) | rfl | (simp only [List.length_drop, List.length_take]; rfl)) ?_; (with_reducible refine (laws_heldIntS.calls kj28 _ _ t243 1 t244 _ ?side1 ?side2 A43.out).mono ?_); (case side1 => repeat (first | exact (Kd.R_reads' HO_9.out).2.2 | (with_reducible refine Kd.C_alloc ?_ _) | (with_reducible refine Kd.C_drewN ?_ _) | (with_reducible refine Kd.C_drew ?_))); (case side2 => rw [show t243.length = t230.length from (Kd.R_reads' HO_9.out).1.symm]; exact (Kd.R_reads' HO_9.out).2.1); rintro e w' ⟨rfl, ⟨nd, rfl⟩⟩; refine ⟨_, rfl, ?_⟩))
                      go_ret
                      exact ⟨by first | rfl | (simp [errW_none, errW_some] <;> rfl) | (simp [*, errW_none, errW_some] <;> rfl), by repeat (first | (with_reducible first | exact HB.out | apply below_alloc | apply pw_below_drewN | apply below_drew1) | exact HB.out)⟩
          · replace c27 := Bool.eq_false_iff.mpr c27
            subst c27
            have H1 : (some false) = some r := by rw [if_neg (show ¬ (false = true) by decide)] at H; exact H
            clear H
            have H := H1
            clear H1
            obtain rfl := Option.some.inj H
            go_wp2_with (first | ((with_reducible refine gate_callee (f := 14) rfl ?_); refine goesL_ (some 47) rfl rfl Tryd.func14 (by kernel_rfl) rfl #[.slice A0 l0.length c0] rfl (by (try simp only [List.map_toArray, List.map_cons, List.map_nil]); first | done | rfl | (simp only [List.length_drop, List.length_take]; rfl)) ?_; (with_reducible refine (laws_toPersonS.calls kj9 _ _ l0 t235 _ ?side1 ?side2 A25.out).mono ?_); (case side1 => repeat (first | exact (Kd.C_below HR0.out HB.out) | (with_reducible refine Kd.C_alloc ?_ _) | (with_reducible refine Kd.C_drewN ?_ _) | (with_reducible refine Kd.C_drew ?_))); (case side2 => exact HC0.out); rintro e w68 ⟨v236, rfl, ho0, hb⟩; refine ⟨_, rfl, ?_⟩; have n0_ := Aside0.mk (Kd.R_below (by (with_reducible repeat (first | apply Kd.R_alloc | apply Kd.R_drewN | apply Kd.R_drew)); exact HO_6.out) hb); have n1_ := Aside0.mk (Kd.R_elder' (by (with_reducible repeat (first | apply Kd.R_alloc | apply Kd.R_drewN | apply Kd.R_drew)); exact HO_8.out) (Kd.R_base ho0) hb); have n2_ := Aside0.mk (Kd.R_below (by (with_reducible repeat (first | apply Kd.R_alloc | apply Kd.R_drewN | apply Kd.R_drew)); exact HO_9.out) hb); have n3_ := Aside0.mk (Kd.R_lower (Kd.R_new' ho0 (Kd.R_lt (by (with_reducible repeat (first | apply Kd.R_alloc | apply Kd.R_drewN | apply Kd.R_drew)); exact HO_8.out))) (below_size (by repeat (first | (with_reducible first | exact HB.out | apply below_alloc | apply pw_below_drewN | apply below_drew1) | exact HB.out)))); have n4_ := Aside0.mk (below_step (by repeat (first | (with_reducible first | exact HB.out | apply below_alloc | apply pw_below_drewN | apply below_drew1) | exact HB.out)) hb); clear HO_6; clear HO_8; clear HO_9; clear HB; have HO_6 := n0_; have HO_8 := n1_; have HO_9 := n2_; have HO237 := n3_; have HB := n4_; clear n0_ n1_ n2_ n3_ n4_; (try clear hb); (try clear hb2); (try clear hk); (try clear hi); (try clear ho0); obtain ⟨Ao69, co69, eo69⟩ := Kd.R_slice HO237.out; subst eo69) | ((with_reducible refine gate_callee (f := 16) rfl ?_); refine goesL_ (some 48) rfl rfl Tryd.func16 (by kernel_rfl) rfl #[.slice Ao16 t227.length co16, .slice Ao69 t235.length co69] rfl (by (try simp only [List.map_toArray, List.map_cons, List.map_nil]); first | done | rfl | (simp only [List.length_drop, List.length_take]; rfl)) ?_; (with_reducible refine (laws_eqPersonS.calls kj9 _ _ t227 _ _ t235 false _ ?side1 ?side2 ?side3 ?side4 A26.out).mono ?_); (case side1 => repeat (first | exact (Kd.R_reads' HO_8.out).2.2 | (with_reducible refine Kd.C_alloc ?_ _) | (with_reducible refine Kd.C_drewN ?_ _) | (with_reducible refine Kd.C_drew ?_))); (case side2 => exact (Kd.R_reads' HO_8.out).2.1); (case side3 => repeat (first | exact (Kd.R_reads' HO237.out).2.2 | (with_reducible refine Kd.C_alloc ?_ _) | (with_reducible refine Kd.C_drewN ?_ _) | (with_reducible refine Kd.C_drew ?_))); (case side4 => exact (Kd.R_reads' HO237.out).2.1); rintro e w70 ⟨rfl, hb⟩; refine ⟨_, rfl, ?_⟩; have n0_ := Aside0.mk (Kd.R_below (by (with_reducible repeat (first | apply Kd.R_alloc | apply Kd.R_drewN | apply Kd.R_drew)); exact HO_6.out) hb); have n1_ := Aside0.mk (Kd.R_below (by (with_reducible repeat (first | apply Kd.R_alloc | apply Kd.R_drewN | apply Kd.R_drew)); exact HO_8.out) hb); have n2_ := Aside0.mk (Kd.R_below (by (with_reducible repeat (first | apply Kd.R_alloc | apply Kd.R_drewN | apply Kd.R_drew)); exact HO_9.out) hb); have n3_ := Aside0.mk (Kd.R_below (by (with_reducible repeat (first | apply Kd.R_alloc | apply Kd.R_drewN | apply Kd.R_drew)); exact HO237.out) hb); have n4_ := Aside0.mk (below_step (by repeat (first | (with_reducible first | exact HB.out | apply below_alloc | apply pw_below_drewN | apply below_drew1) | exact HB.out)) hb); clear HO_6; clear HO_8; clear HO_9; clear HO237; clear HB; have HO_6 := n0_; have HO_8 := n1_; have HO_9 := n2_; have HO237 := n3_; have HB := n4_; clear n0_ n1_ n2_ n3_ n4_; (try clear hb); (try clear hb2); (try clear hk); (try clear hi)))
            go_ret
            exact ⟨by first | rfl | (simp [errW_none, errW_some] <;> rfl) | (simp [*, errW_none, errW_some] <;> rfl), by repeat (first | (with_reducible first | exact HB.out | apply below_alloc | apply pw_below_drewN | apply below_drew1) | exact HB.out)⟩

end Go.Proofs.YtafdklajmklmkaaDoor.XFnExactSmallestTeam
