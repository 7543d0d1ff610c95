/- Contracts of the functions that the law FnTeamCounts comes to: each is told as a plain function of its arguments, and the machine's call does what that function says; no condition. Written by programs (print.py, xprint.py); Lean checks it. -/
import Derived.Test.YtafdklajmklmkaaGreatDoorXFnTeamCountsx0
import Derived.Test.YtafdklajmklmkaaGreatDoorXFnTeamCountsx1
import Derived.Test.YtafdklajmklmkaaGreatDoorXFnTeamCountsx3
import Derived.Test.YtafdklajmklmkaaGreatDoorXFnTeamCountsx4
import Derived.Test.YtafdklajmklmkaaGreatDoorXFnTeamCountsx6
import Derived.Test.YtafdklajmklmkaaGreatDoorXFnTeamCountsx9
import Derived.Test.YtafdklajmklmkaaGreatDoorXFnTeamCountsx12
import Derived.Test.YtafdklajmklmkaaGreatDoorXFnTeamCountsx13
import Derived.Test.YtafdklajmklmkaaGreatDoorXFnTeamCountsx14
import Derived.Test.YtafdklajmklmkaaGreatDoorXFnTeamCountsx15
namespace Go.Proofs.YtafdklajmklmkaaGreatDoor.XFnTeamCounts
open Go.RowKit Go.Proofs.YtafdklajmklmkaaGreatDoorW.PrintWords Go.Proofs.YtafdklajmklmkaaGreatDoorW.PrintLast Go.Proofs.YtafdklajmklmkaaGreatDoorW.PrintMore
open List renaming setIfInBounds_toArray → zA, set_cons_zero → zB, set_cons_succ → zC
attribute [local go_sem] max2_int min2_int max_two min_two max_three min_three max_four min_four   -- for this text's walks alone
set_option linter.unusedVariables false
set_option linter.unusedSimpArgs false

/-! ### laws_FnTeamCounts: function 4 -/
mutual
def laws_FnTeamCounts.j0 : Nat → List Int → List (S41) → List (List Int) → Bool → Option (Bool)
 | 0, _, _, _, _ => none
 | k + 1, x0, x3, x4, x58 => if x58 = true then (none) else (laws_FnTeamCounts.l0 k x0 x3 x4 (([] : List Int)) 0)
def laws_FnTeamCounts.l0 : Nat → List Int → List (S41) → List (List Int) → List Int → Int → Option (Bool)
 | 0, _, _, _, _, _ => none
 | k + 1, x0, x3, x4, x8, x9 => if x9 < (x4.length : Int) then (if 0 ≤ x9 then ((impl_IsTeam.f k x3 (rd_L5 x4 x9)).bind fun bt462 => (if bt462.2 = true then (laws_FnTeamCounts.j2 k x0 x3 x4 x8 x9 (!bt462.1)) else (laws_FnTeamCounts.j2 k x0 x3 x4 x8 x9 true))) else (none)) else ((impl_CountTeams.f k x3).bind fun bt473 => ((spec_CountTeams.f k x3).bind fun bt476 => (if bt473.1 = bt476.1 then (if bt473.2.1 = bt476.2.1 then (if (bt473.2.2 != bt476.2.2) = true then (laws_FnTeamCounts.j4 k x0 true) else (if bt473.2.1 > bt473.1 then (laws_FnTeamCounts.j4 k x0 true) else (if bt473.2.2 = true then (laws_FnTeamCounts.j4 k x0 ((bt473.1 == 0) != ((x4.length : Int) == 0))) else (laws_FnTeamCounts.j4 k x0 false)))) else (laws_FnTeamCounts.j4 k x0 true)) else (laws_FnTeamCounts.j4 k x0 true))))
def laws_FnTeamCounts.j2 : Nat → List Int → List (S41) → List (List Int) → List Int → Int → Bool → Option (Bool)
 | 0, _, _, _, _, _, _ => none
 | k + 1, x0, x3, x4, x8, x9, x80 => if x80 = true then (none) else (laws_FnTeamCounts.l1 k x0 x3 x4 x8 x9 0)
def laws_FnTeamCounts.l1 : Nat → List Int → List (S41) → List (List Int) → List Int → Int → Int → Option (Bool)
 | 0, _, _, _, _, _, _ => none
 | k + 1, x0, x3, x4, x8, x9, x12 => if 0 ≤ x9 then (if x9 < (x4.length : Int) then (if x12 < ((rd_L5 x4 x9).length : Int) then (if 0 ≤ x12 then ((laws_rHas.f k x8 (rd (rd_L5 x4 x9) x12)).bind fun t467 => (if t467 = true then (none) else (if x8.length < 17592186044416 then (laws_FnTeamCounts.l1 k x0 x3 x4 (x8 ++ [rd (rd_L5 x4 x9) x12]) x9 (wrap64 (x12 + 1))) else (none)))) else (none)) else (laws_FnTeamCounts.l0 k x0 x3 x4 x8 (wrap64 (x9 + 1)))) else (none)) else (none)
def laws_FnTeamCounts.j4 : Nat → List Int → Bool → Option (Bool)
 | 0, _, _ => none
 | k + 1, x0, x149 => if x149 = true then (none) else ((spec_DrawWithSkills.f k x0).bind fun bt479 => ((impl_WithSkills.f k bt479.1 bt479.2).bind fun bt483 => ((spec_WithSkills.f k bt479.1 bt479.2).bind fun bt487 => (if (bt483.2 != bt487.2) = true then (laws_FnTeamCounts.j5 k x0 true) else ((laws_rInts.f k bt483.1 bt487.1).bind fun t491 => (laws_FnTeamCounts.j5 k x0 (!t491)))))))
def laws_FnTeamCounts.j5 : Nat → List Int → Bool → Option (Bool)
 | 0, _, _ => none
 | k + 1, x0, x175 => if x175 = true then (none) else ((spec_DrawSkillsOf.f k x0).bind fun bt492 => ((impl_SkillsOf.f k bt492.1 bt492.2).bind fun bt498 => ((spec_SkillsOf.f k bt492.1 bt492.2).bind fun bt500 => (if bt498.1 = bt500.1 then (some (bt498.2 == bt500.2)) else (none)))))
end
def laws_FnTeamCounts.f (k : Nat) (l0 : List Int) : Option (Bool) := (laws_rBig.f l0).bind fun t445 => (if t445 = true then (some true) else ((spec_DrawSplitTeams.f k l0).bind fun t446 => ((impl_SplitTeams.f k t446).bind fun bt449 => ((spec_SplitTeams.f k t446).bind fun bt453 => (if (bt449.2 != bt453.2) = true then (laws_FnTeamCounts.j0 k l0 t446 bt449.1 true) else ((laws_rTable.f k bt449.1 bt453.1).bind fun t457 => (if t457 = true then (laws_FnTeamCounts.j0 k l0 t446 bt449.1 (decide ((bt449.1.length : Int) > 3))) else (laws_FnTeamCounts.j0 k l0 t446 bt449.1 true))))))))
set_option maxHeartbeats 8000000 in
set_option maxRecDepth 100000 in
theorem laws_FnTeamCounts.calls (k : Nat) (A0 : Option Addr) (c0 : Nat) (l0 : List Int) (r : Bool) (w : World) (hr0 : Kd.C (Kd.int .u8) w A0 l0.length l0) (hc0 : l0.length ≤ c0) (h : laws_FnTeamCounts.f k l0 = some r) :
  Calls Tryz.prog 4 #[.slice A0 l0.length c0] w fun e w' => e = .returned (.bool r) ∧ Below w.heap.size w w' := by
 have HR0 := Aside0.mk hr0; have HC0 := Aside0.mk hc0; clear hr0 hc0
 have HB := Aside0.mk (Below.refl w.heap.size w)
 have H : ((laws_rBig.f l0).bind fun t445 => (if t445 = true then (some true) else ((spec_DrawSplitTeams.f k l0).bind fun t446 => ((impl_SplitTeams.f k t446).bind fun bt449 => ((spec_SplitTeams.f k t446).bind fun bt453 => (if (bt449.2 != bt453.2) = true then (laws_FnTeamCounts.j0 k l0 t446 bt449.1 true) else ((laws_rTable.f k bt449.1 bt453.1).bind fun t457 => (if t457 = true then (laws_FnTeamCounts.j0 k l0 t446 bt449.1 (decide ((bt449.1.length : Int) > 3))) else (laws_FnTeamCounts.j0 k l0 t446 bt449.1 true))))))))) = some r := h
 clear h; replace H := Option.bind_eq_some_iff.mp H; obtain ⟨t445, A20, H⟩ := H
 replace H : (if t445 = true then (some true) else ((spec_DrawSplitTeams.f k l0).bind fun t446 => ((impl_SplitTeams.f k t446).bind fun bt449 => ((spec_SplitTeams.f k t446).bind fun bt453 => (if (bt449.2 != bt453.2) = true then (laws_FnTeamCounts.j0 k l0 t446 bt449.1 true) else ((laws_rTable.f k bt449.1 bt453.1).bind fun t457 => (if t457 = true then (laws_FnTeamCounts.j0 k l0 t446 bt449.1 (decide ((bt449.1.length : Int) > 3))) else (laws_FnTeamCounts.j0 k l0 t446 bt449.1 true)))))))) = some r := H
 have A2 := Aside0.mk A20; clear A20
 by_cases c3 : t445 = true
 ·subst c3
  have H1 : (some true) = some r := by rw [if_pos rfl] at H; exact H
  clear H; have H := H1; clear H1
  obtain rfl := Option.some.inj H
  go_enter Tryz.func4, Tryz.ntmps4
  go_wp2_with (first | ((with_reducible refine gate_callee (f := 5) rfl ?_); refine goesL_ (some 32) rfl rfl Tryz.func5 (by kernel_rfl) rfl #[.slice A0 l0.length c0] rfl gl_ ?_; (with_reducible refine (laws_rBig.calls _ _ l0 true _ ?side1 ?side2 A2.out).mono ?_); (case side1 => exact z12_); (case side2 => exact HC0.out); rintro e w' ⟨rfl, ⟨nd, rfl⟩⟩; refine ⟨_, rfl, ?_⟩))
  go_ret
  exact ⟨z7_, z4_⟩
 ·replace c3 := Bool.eq_false_iff.mpr c3
  subst c3
  have H1 : ((spec_DrawSplitTeams.f k l0).bind fun t446 => ((impl_SplitTeams.f k t446).bind fun bt449 => ((spec_SplitTeams.f k t446).bind fun bt453 => (if (bt449.2 != bt453.2) = true then (laws_FnTeamCounts.j0 k l0 t446 bt449.1 true) else ((laws_rTable.f k bt449.1 bt453.1).bind fun t457 => (if t457 = true then (laws_FnTeamCounts.j0 k l0 t446 bt449.1 (decide ((bt449.1.length : Int) > 3))) else (laws_FnTeamCounts.j0 k l0 t446 bt449.1 true))))))) = some r := by rw [if_neg (show ¬ (false = true) by decide)] at H; exact H
  clear H; have H := H1; clear H1; replace H := Option.bind_eq_some_iff.mp H; obtain ⟨t446, A40, H⟩ := H
  replace H : ((impl_SplitTeams.f k t446).bind fun bt449 => ((spec_SplitTeams.f k t446).bind fun bt453 => (if (bt449.2 != bt453.2) = true then (laws_FnTeamCounts.j0 k l0 t446 bt449.1 true) else ((laws_rTable.f k bt449.1 bt453.1).bind fun t457 => (if t457 = true then (laws_FnTeamCounts.j0 k l0 t446 bt449.1 (decide ((bt449.1.length : Int) > 3))) else (laws_FnTeamCounts.j0 k l0 t446 bt449.1 true)))))) = some r := H
  have A4 := Aside0.mk A40; clear A40; replace H := Option.bind_eq_some_iff.mp H; obtain ⟨⟨t449, t452⟩, A50, H⟩ := H
  replace H : ((spec_SplitTeams.f k t446).bind fun bt453 => (if (t452 != bt453.2) = true then (laws_FnTeamCounts.j0 k l0 t446 t449 true) else ((laws_rTable.f k t449 bt453.1).bind fun t457 => (if t457 = true then (laws_FnTeamCounts.j0 k l0 t446 t449 (decide ((t449.length : Int) > 3))) else (laws_FnTeamCounts.j0 k l0 t446 t449 true))))) = some r := H
  have A5 := Aside0.mk A50; clear A50; replace H := Option.bind_eq_some_iff.mp H; obtain ⟨⟨t453, t454⟩, A60, H⟩ := H
  replace H : (if (t452 != t454) = true then (laws_FnTeamCounts.j0 k l0 t446 t449 true) else ((laws_rTable.f k t449 t453).bind fun t457 => (if t457 = true then (laws_FnTeamCounts.j0 k l0 t446 t449 (decide ((t449.length : Int) > 3))) else (laws_FnTeamCounts.j0 k l0 t446 t449 true)))) = some r := H
  have A6 := Aside0.mk A60; clear A60; have HC7 := Aside0.mk H; clear H
  go_enter Tryz.func4, Tryz.ntmps4
  go_upto_region 6 with (first | ((with_reducible refine gate_callee (f := 5) rfl ?_); refine goesL_ (some 32) rfl rfl Tryz.func5 (by kernel_rfl) rfl #[.slice A0 l0.length c0] rfl gl_ ?_; (with_reducible refine (laws_rBig.calls _ _ l0 false _ ?side1 ?side2 A2.out).mono ?_); (case side1 => exact z12_); (case side2 => exact HC0.out); rintro e w' ⟨rfl, ⟨nd, rfl⟩⟩; refine ⟨_, rfl, ?_⟩) | ((with_reducible refine gate_callee (f := 23) rfl ?_); refine goesL_ (some 34) rfl rfl Tryz.func23 (by kernel_rfl) rfl #[.slice A0 l0.length c0] rfl gl_ ?_; (with_reducible refine (spec_DrawSplitTeams.calls k _ _ l0 t446 _ ?side1 ?side2 A4.out).mono ?_); (case side1 => exact z12_); (case side2 => exact HC0.out); rintro e w8 ⟨v447, rfl, ho0, hb⟩; refine ⟨_, rfl, ?_⟩; have n0_ := Aside0.mk (Kd.R_lower ho0 (below_size bx_)); have n1_ := Aside0.mk (below_step bx_ hb); clear HB; have HO448 := n0_; have HB := n1_; clear n0_ n1_; (try clear hb); (try clear hk); (try clear ho0); obtain ⟨Ao9, co9, eo9⟩ := Kd.R_slice HO448.out; subst eo9) | ((with_reducible refine gate_callee (f := 24) rfl ?_); refine goesL_ (some 37) rfl rfl Tryz.func24 (by kernel_rfl) rfl #[.slice Ao9 t446.length co9] rfl gl_ ?_; (with_reducible refine (impl_SplitTeams.calls k (fun k_ => some k_ = (.slice Ao9 t446.length co9 : Value).ownBlock) _ _ t446 t449 t452 _ ?side1 A5.out).mono ?_); (case side1 => exact Kd.R_V (Kd.R_tight rfl (HO448.out))); rintro e w10 ⟨v450, rfl, ho0, hb⟩; refine ⟨_, rfl, ?_⟩; have n0_ := Aside0.mk (Kd.R_below (kr_ HO448) hb); have n1_ := Aside0.mk (Kd.S_lower (Kd.S_mono (ok' := fun k_ => True) ho0 (fun _ hk_ => trivial)) (below_size bx_)); have n2_ := Aside0.mk (below_step bx_ hb); clear HO448; clear HB; have HO448 := n0_; have HO451 := n1_; have HB := n2_; clear n0_ n1_ n2_; (try clear hb); (try clear hk); (try clear ho0)) | ((with_reducible refine gate_callee (f := 25) rfl ?_); refine goesL_ (some 42) rfl rfl Tryz.func25 (by kernel_rfl) rfl #[.slice Ao9 t446.length co9] rfl gl_ ?_; (with_reducible refine (spec_SplitTeams.calls k _ _ t446 t453 t454 _ ?side1 ?side2 A6.out).mono ?_); (case side1 => repeat (first | exact (Kd.R_reads' HO448.out).2.2 | (with_reducible refine Kd.C_alloc ?_ _) | (with_reducible refine Kd.C_drewN ?_ _) | (with_reducible refine Kd.C_drew ?_))); (case side2 => exact (Kd.R_reads' HO448.out).2.1); rintro e w11 ⟨v455, rfl, ho0, hb⟩; refine ⟨_, rfl, ?_⟩; have n0_ := Aside0.mk (Kd.R_below (kr_ HO448) hb); have n1_ := Aside0.mk (Kd.S_elder' (by (with_reducible repeat (first | apply Kd.S_alloc | apply Kd.S_drewN | apply Kd.S_drew)); exact HO451.out) (Kd.S_base ho0) hb); have n2_ := Aside0.mk (Kd.S_lower (Kd.S_new' ho0 (Kd.S_lt (by (with_reducible repeat (first | apply Kd.S_alloc | apply Kd.S_drewN | apply Kd.S_drew)); exact HO451.out))) (below_size bx_)); have n3_ := Aside0.mk (below_step bx_ hb); clear HO448; clear HO451; clear HB; have HO448 := n0_; have HO451 := n1_; have HO456 := n2_; have HB := n3_; clear n0_ n1_ n2_ n3_; (try clear hb); (try clear hk); (try clear ho0)))
  (try simp only [Act.put, zA, zB, zC])
  go_cut [58] (fun v58 wc => ∃ (kq : Nat) (x58_6 : Bool), v58 = .bool x58_6 ∧ Aside0 (laws_FnTeamCounts.j0 kq l0 t446 t449 x58_6 = some r) ∧ Aside0 (kq ≤ k) ∧ Aside0 (Kd.R k41 41 wc w.heap.size (fun _ => True) (.slice Ao9 t446.length co9) t446) ∧ Aside0 (Kd.S (Kd.slice 3 (Kd.int .i64)) 27 wc w.heap.size (fun _ => True) v450 t449) ∧ Aside0 (Below w.heap.size w wc))
  case first =>
   have H := HC7.out; clear HC7
   by_cases c12 : (t452 != t454) = true
   ·rw [if_pos c12] at H
    have c12b0 : (t452 != t454) = true := c12
    (try (have c12b1 : decide (t452 = t454) = false := by simpa using c12))
    (try (have c12b2 : (t452 == t454) = false := by simpa using c12))
    (try (have c12b3 : ¬ (t452 = t454) := by simpa using c12))
    clear c12
    (first | rw [c12b0] | (simp only [i64_w, i32_w]; rw [c12b0]) | skip)
    have H' := Aside0.mk H
    clear H
    go_wp2
    go_meet
    case rel => exact ⟨_, (true), z2_, H', ⟨z26_⟩, ⟨z60_⟩, ⟨z61_⟩, ⟨z4_⟩⟩
   ·rw [if_neg c12] at H
    have c12b0 : (t452 != t454) = false := by simpa using c12
    (try (have c12b1 : decide (t452 = t454) = true := by simpa using c12))
    (try (have c12b2 : (t452 == t454) = true := by simpa using c12))
    clear c12
    (first | rw [c12b0] | (simp only [i64_w, i32_w]; rw [c12b0]) | skip)
    replace H := Option.bind_eq_some_iff.mp H; obtain ⟨t457, A130, H⟩ := H
    replace H : (if t457 = true then (laws_FnTeamCounts.j0 k l0 t446 t449 (decide ((t449.length : Int) > 3))) else (laws_FnTeamCounts.j0 k l0 t446 t449 true)) = some r := H
    have A13 := Aside0.mk A130; clear A130
    by_cases c14 : t457 = true
    ·subst c14
     have H1 : (laws_FnTeamCounts.j0 k l0 t446 t449 (decide ((t449.length : Int) > 3))) = some r := by rw [if_pos rfl] at H; exact H
     clear H; have H := H1; clear H1
     have H' := Aside0.mk H
     clear H
     obtain ⟨Ao15, co15, eo15⟩ := Kd.S_slice HO451.out
     subst eo15
     obtain ⟨Ao16, co16, eo16⟩ := Kd.S_slice HO456.out
     subst eo16
     go_wp2_with (first | (go_at_call 26; (with_reducible refine (laws_rTable.calls k _ _ t449 _ _ t453 true _ ?side1 ?side2 ?side3 ?side4 A13.out).mono ?_); (case side1 => exact z69_); (case side2 => exact (Kd.S_reads' HO451.out).2.1); (case side3 => repeat (first | exact (Kd.S_reads' HO456.out).2.2 | (with_reducible refine Kd.C_alloc ?_ _) | (with_reducible refine Kd.C_drewN ?_ _) | (with_reducible refine Kd.C_drew ?_))); (case side4 => exact (Kd.S_reads' HO456.out).2.1); rintro e w' ⟨rfl, ⟨nd, rfl⟩⟩))
     go_meet
     case rel => exact ⟨_, (decide ((t449.length : Int) > 3)), z2_, H', ⟨z26_⟩, ⟨z60_⟩, ⟨z61_⟩, ⟨z4_⟩⟩
    ·replace c14 := Bool.eq_false_iff.mpr c14
     subst c14
     have H1 : (laws_FnTeamCounts.j0 k l0 t446 t449 true) = some r := by rw [if_neg (show ¬ (false = true) by decide)] at H; exact H
     clear H; have H := H1; clear H1
     have H' := Aside0.mk H
     clear H
     obtain ⟨Ao17, co17, eo17⟩ := Kd.S_slice HO451.out
     subst eo17
     obtain ⟨Ao18, co18, eo18⟩ := Kd.S_slice HO456.out
     subst eo18
     go_wp2_with (first | (go_at_call 26; (with_reducible refine (laws_rTable.calls k _ _ t449 _ _ t453 false _ ?side1 ?side2 ?side3 ?side4 A13.out).mono ?_); (case side1 => exact z69_); (case side2 => exact (Kd.S_reads' HO451.out).2.1); (case side3 => repeat (first | exact (Kd.S_reads' HO456.out).2.2 | (with_reducible refine Kd.C_alloc ?_ _) | (with_reducible refine Kd.C_drewN ?_ _) | (with_reducible refine Kd.C_drew ?_))); (case side4 => exact (Kd.S_reads' HO456.out).2.1); rintro e w' ⟨rfl, ⟨nd, rfl⟩⟩))
     go_meet
     case rel => exact ⟨_, (true), z2_, H', ⟨z26_⟩, ⟨z60_⟩, ⟨z61_⟩, ⟨z4_⟩⟩
  case rest =>
   clear HC7; (try clear c3); (try clear c12); (try clear c12b0); (try clear c12b1); (try clear c12b2); (try clear c14); obtain ⟨kq, x58_6, rfl, HA, HJ6, HO_3, HO_4, HB⟩ := hcut
   cases kq with
   | zero => exact absurd HA.out (by simp [laws_FnTeamCounts.j0])
   | succ kj6 =>
    have H := HA.out; clear HA
    simp only [laws_FnTeamCounts.j0] at H
    by_cases c19 : x58_6 = true
    ·subst c19
     have H1 : (none) = some r := by rw [if_pos rfl] at H; exact H
     clear H; have H := H1; clear H1
     exact absurd H (by simp)
    ·replace c19 := Bool.eq_false_iff.mpr c19
     subst c19
     have H1 : (laws_FnTeamCounts.l0 kj6 l0 t446 t449 (([] : List Int)) 0) = some r := by rw [if_neg (show ¬ (false = true) by decide)] at H; exact H
     clear H; have H := H1; clear H1
     obtain ⟨y458, hy458⟩ : ∃ y_ : List Int, y_ = (([] : List Int)) := ⟨_, rfl⟩
     replace H : (laws_FnTeamCounts.l0 kj6 l0 t446 t449 y458 0) = some r := by first | (rw [hy458]; with_reducible exact H) | (have H2_ := (Option.bind_some _ _).symm.trans H; rw [hy458]; with_reducible exact H2_) | (have H2_ := (Option.bind_some _ _).symm.trans H; with_reducible exact H2_) | with_reducible exact H | (rw [hy458]; exact H) | exact H
     have Ny458 := Aside0.mk hy458; clear hy458
     have H' := Aside0.mk H
     clear H
     go_wp2_with (first | ((with_reducible refine gate_dst (N := 59) rfl ?_); (try (refine gate_guard (by rfl) ?_; dsimp only)); refine Kd.R_lit (Kd.int .i64) _ 3 ?hg (N := 59) ?hd (xs := ([] : List Int)) (inner := []) (ok := fun _ => True) (okp := fun _ => True) ?hr ?hp (fun _ hk => hk) trivial (Below.refl _ _) (Nat.le_refl _) (by simp) ?_; (case hd => rfl); (case hg => rfl); (case hr => first | (go_simp; done) | (go_simp; rfl)); (case hp => exact (Reps.none _ _)); intro v459 w20 ho21 hb hg_ hnew_; clear hg_ hnew_; (first | rw [← Ny458.out] at ho21 | (simp only [Int.reduceToNat] at ho21; rw [← Ny458.out] at ho21)); have n0_ := Aside0.mk (Kd.R_below (kr_ HO_3) hb); have n1_ := Aside0.mk (Kd.S_elder' z17_ (Kd.R_base ho21) hb); have n2_ := Aside0.mk (Kd.R_lower ho21 (below_size bx_)); have n3_ := Aside0.mk (below_step bx_ hb); clear HO_3; clear HO_4; clear HB; have HO_3 := n0_; have HO_4 := n1_; have HO460 := n2_; have HB := n3_; clear n0_ n1_ n2_ n3_; clear hb ho21))
     go_loopg [8, 9] kj6 (fun kq v8 v9 w' => ∃ (x8_2 : List Int) (x9_2 : Int), v9 = .int .i64 x9_2 ∧ Aside0 (laws_FnTeamCounts.l0 kq l0 t446 t449 x8_2 x9_2 = some r) ∧ Aside0 (kq ≤ kj6) ∧ Aside0 (Kd.R k41 41 w' w.heap.size (fun _ => True) (.slice Ao9 t446.length co9) t446) ∧ Aside0 (Kd.S (Kd.slice 3 (Kd.int .i64)) 27 w' w.heap.size (fun k_ => some k_ ≠ (v8 : Value).ownBlock) v450 t449) ∧ Aside0 (Kd.R (Kd.int .i64) 3 w' w.heap.size (fun _ => True) v8 x8_2) ∧ Aside0 (Below w.heap.size w w'))
     case atStart => exact ⟨(y458), (0), z2_, H', ⟨Nat.le_refl _⟩, ⟨z22_⟩, ⟨z40_⟩, ⟨by (with_reducible repeat (first | apply Kd.R_alloc | apply Kd.R_drewN | apply Kd.R_drew)); exact HO460.out⟩, ⟨z4_⟩⟩
     case round =>
      clear H'
      (try clear c3); (try clear c12); (try clear c12b0); (try clear c12b1); (try clear c12b2); (try clear c14); (try clear c19); obtain ⟨x8_2, x9_2, rfl, HA, HK2, HO_3, HO_4, HO_8, HB⟩ := hrel
      cases gk with
      | zero => exact absurd HA.out (by simp [laws_FnTeamCounts.l0])
      | succ k2 =>
       have H := HA.out; clear HA
       simp only [laws_FnTeamCounts.l0] at H
       by_cases c22 : x9_2 < (t449.length : Int)
       ·rw [if_pos c22] at H
        have c22b0 : decide (x9_2 < (t449.length : Int)) = true := decide_eq_true c22
        clear c22
        by_cases c23 : 0 ≤ x9_2
        ·rw [if_pos c23] at H
         have c23b0 : decide (0 ≤ x9_2) = true := decide_eq_true c23
         clear c23; replace H := Option.bind_eq_some_iff.mp H; obtain ⟨⟨t462, t463⟩, A240, H⟩ := H
         replace H : (if t463 = true then (laws_FnTeamCounts.j2 k2 l0 t446 t449 x8_2 x9_2 (!t462)) else (laws_FnTeamCounts.j2 k2 l0 t446 t449 x8_2 x9_2 true)) = some r := H
         have A24 := Aside0.mk A240; clear A240; have HC25 := Aside0.mk H; clear H
         obtain ⟨Ao26, co26, eo26⟩ := Kd.S_slice HO_4.out
         subst eo26
         have p461 : 0 ≤ (x9_2 : Int) := od_
         have q461 : x9_2 < (t449.length : Int) := od_
         obtain ⟨ad461, A461_0, c461_0, e461, hx461_0, hl461_0, hi461_0⟩ := at_L5 (Kd.S_reads' HO_4.out).2.2 x9_2 p461 q461
         cases e461
         obtain ⟨ce461, hce461, hMe461, hcc461⟩ := Kd.S_get HO_4.out [] x9_2 p461 (by first | exact q461 | exact od_ | (have e_ := (Kd.S_reads' HO_4.out).1; omega))
         obtain ⟨ve461_0, rfl, ge461_0⟩ := hMe461; have hv461_0 := hcc461 0 _ rfl
         rw [Nat.add_zero, show ((Kd.slice 3 (Kd.int .i64))).sz = 1 from rfl, Nat.mul_one] at hv461_0
         replace hv461_0 := Option.some.inj (hv461_0.symm.trans hx461_0)
         rw [hv461_0] at ge461_0
         have HL461_0 := Aside0.mk (show Kd.R (Kd.int .i64) 3 _ _ _ _ (rd_L5 t449 x9_2) from ge461_0)
         clear hv461_0 ge461_0; clear hcc461 hce461; have HR461_0 := Aside0.mk hi461_0; have HC461_0 := Aside0.mk hl461_0; clear hi461_0 hl461_0
         replace p461 := eq_true p461
         replace q461 := eq_true q461
         go_upto_region 13 with (first | ((with_reducible refine gate_callee (f := 10) rfl ?_); refine goesL_ (some 72) rfl rfl Tryz.func10 (by kernel_rfl) rfl #[.slice Ao9 t446.length co9, .slice A461_0 (rd_L5 t449 x9_2).length c461_0] rfl gl_ ?_; (with_reducible refine (impl_IsTeam.calls k2 _ _ t446 _ _ (rd_L5 t449 x9_2) t462 t463 _ ?side1 ?side2 ?side3 ?side4 A24.out).mono ?_); (case side1 => exact z70_); (case side2 => exact (Kd.R_reads' HO_3.out).2.1); (case side3 => repeat (first | exact z50_ | (with_reducible refine Kd.C_alloc ?_ _) | (with_reducible refine Kd.C_drewN ?_ _) | (with_reducible refine Kd.C_drew ?_))); (case side4 => exact HC461_0.out); rintro e w27 ⟨rfl, hb⟩; refine ⟨_, rfl, ?_⟩; have n0_ := Aside0.mk (Kd.R_below (kr_ HO_3) hb); have n1_ := Aside0.mk (Kd.S_below z17_ hb); have n2_ := Aside0.mk (Kd.R_below (kr_ HO_8) hb); have n3_ := Aside0.mk (Kd.R_below (by (with_reducible repeat (first | apply Kd.R_alloc | apply Kd.R_drewN | apply Kd.R_drew)); exact HL461_0.out) hb); have n4_ := Aside0.mk (Kd.C_below z50_ hb); have n5_ := Aside0.mk (below_step bx_ hb); clear HO_3; clear HO_4; clear HO_8; clear HL461_0; clear HR461_0; clear HB; have HO_3 := n0_; have HO_4 := n1_; have HO_8 := n2_; have HL461_0 := n3_; have HR461_0 := n4_; have HB := n5_; clear n0_ n1_ n2_ n3_ n4_ n5_; (try clear hb); (try clear hk)))
         (try simp only [Act.put, zA, zB, zC])
         go_cut [80] (fun v80 wc => ∃ (kq : Nat) (x80_24 : Bool), v80 = .bool x80_24 ∧ Aside0 (laws_FnTeamCounts.j2 kq l0 t446 t449 x8_2 x9_2 x80_24 = some r) ∧ Aside0 (kq ≤ k2) ∧ Aside0 (Kd.R k41 41 wc w.heap.size (fun _ => True) (.slice Ao9 t446.length co9) t446) ∧ Aside0 (Kd.S (Kd.slice 3 (Kd.int .i64)) 27 wc w.heap.size (fun k_ => some k_ ≠ (u8 : Value).ownBlock) (.slice (some ad461) t449.length co26) t449) ∧ Aside0 (Kd.R (Kd.int .i64) 3 wc w.heap.size (fun _ => True) u8 x8_2) ∧ Aside0 (Kd.C (Kd.int .i64) wc A461_0 (rd_L5 t449 x9_2).length (rd_L5 t449 x9_2)) ∧ Aside0 (Below w.heap.size w wc))
         case first =>
          have H := HC25.out; clear HC25
          by_cases c28 : t463 = true
          ·subst c28
           have H1 : (laws_FnTeamCounts.j2 k2 l0 t446 t449 x8_2 x9_2 (!t462)) = some r := by rw [if_pos rfl] at H; exact H
           clear H; have H := H1; clear H1
           have H' := Aside0.mk H
           clear H
           go_wp2
           go_meet
           case rel => exact ⟨_, (!t462), z2_, H', ⟨by have := HJ6.out; have := HK2.out; first | omega | exact Nat.le_refl _⟩, ⟨z22_⟩, ⟨z17_⟩, ⟨z51_⟩, ⟨z50_⟩, ⟨z4_⟩⟩
          ·replace c28 := Bool.eq_false_iff.mpr c28
           subst c28
           have H1 : (laws_FnTeamCounts.j2 k2 l0 t446 t449 x8_2 x9_2 true) = some r := by rw [if_neg (show ¬ (false = true) by decide)] at H; exact H
           clear H; have H := H1; clear H1
           have H' := Aside0.mk H
           clear H
           go_wp2
           go_meet
           case rel => exact ⟨_, (true), z2_, H', ⟨by have := HJ6.out; have := HK2.out; first | omega | exact Nat.le_refl _⟩, ⟨z22_⟩, ⟨z17_⟩, ⟨z51_⟩, ⟨z50_⟩, ⟨z4_⟩⟩
         case rest =>
          clear HC25; (try clear c3); (try clear c12); (try clear c12b0); (try clear c12b1); (try clear c12b2); (try clear c14); (try clear c19); (try clear c22); (try clear c22b0); (try clear c23); (try clear c23b0); (try clear c28); (try clear hx461_0); (try clear p461); (try clear q461); obtain ⟨kq, x80_24, rfl, HA, HJ24, HO_3, HO_4, HO_8, HR461_0, HB⟩ := hcut
          cases kq with
          | zero => exact absurd HA.out (by simp [laws_FnTeamCounts.j2])
          | succ kj24 =>
           have H := HA.out; clear HA
           simp only [laws_FnTeamCounts.j2] at H
           by_cases c29 : x80_24 = true
           ·subst c29
            have H1 : (none) = some r := by rw [if_pos rfl] at H; exact H
            clear H; have H := H1; clear H1
            exact absurd H (by simp)
           ·replace c29 := Bool.eq_false_iff.mpr c29
            subst c29
            have H1 : (laws_FnTeamCounts.l1 kj24 l0 t446 t449 x8_2 x9_2 0) = some r := by rw [if_neg (show ¬ (false = true) by decide)] at H; exact H
            clear H; have H := H1; clear H1
            have H' := Aside0.mk H
            clear H
            go_wp2
            go_loopg [8, 12] kj24 (fun kq v8 v12 w' => ∃ (x8_4 : List Int) (x12_4 : Int), v12 = .int .i64 x12_4 ∧ Aside0 (laws_FnTeamCounts.l1 kq l0 t446 t449 x8_4 x9_2 x12_4 = some r) ∧ Aside0 (kq ≤ kj24) ∧ Aside0 (Kd.R k41 41 w' w.heap.size (fun _ => True) (.slice Ao9 t446.length co9) t446) ∧ Aside0 (Kd.S (Kd.slice 3 (Kd.int .i64)) 27 w' w.heap.size (fun k_ => some k_ ≠ (v8 : Value).ownBlock) (.slice (some ad461) t449.length co26) t449) ∧ Aside0 (Kd.R (Kd.int .i64) 3 w' w.heap.size (fun _ => True) v8 x8_4) ∧ Aside0 (Below w.heap.size w w'))
            case atStart => exact ⟨(x8_2), (0), z2_, H', ⟨Nat.le_refl _⟩, ⟨z22_⟩, ⟨z17_⟩, ⟨z51_⟩, ⟨z4_⟩⟩
            case round =>
             clear H'
             (try clear c3); (try clear c12); (try clear c12b0); (try clear c12b1); (try clear c12b2); (try clear c14); (try clear c19); (try clear c22); (try clear c22b0); (try clear c23); (try clear c23b0); (try clear c28); (try clear c29); (try clear hx461_0); (try clear p461); (try clear q461); obtain ⟨x8_4, x12_4, rfl, HA, HK4, HO_3, HO_4, HO_8, HB⟩ := hrel
             cases gk with
             | zero => exact absurd HA.out (by simp [laws_FnTeamCounts.l1])
             | succ k4 =>
              have H := HA.out; clear HA
              simp only [laws_FnTeamCounts.l1] at H
              by_cases c30 : 0 ≤ x9_2
              ·rw [if_pos c30] at H
               have c30b0 : decide (0 ≤ x9_2) = true := decide_eq_true c30
               clear c30
               by_cases c31 : x9_2 < (t449.length : Int)
               ·rw [if_pos c31] at H
                have c31b0 : decide (x9_2 < (t449.length : Int)) = true := decide_eq_true c31
                clear c31
                by_cases c32 : x12_4 < ((rd_L5 t449 x9_2).length : Int)
                ·rw [if_pos c32] at H
                 have c32b0 : decide (x12_4 < ((rd_L5 t449 x9_2).length : Int)) = true := decide_eq_true c32
                 clear c32
                 by_cases c33 : 0 ≤ x12_4
                 ·rw [if_pos c33] at H
                  have c33b0 : decide (0 ≤ x12_4) = true := decide_eq_true c33
                  clear c33; replace H := Option.bind_eq_some_iff.mp H; obtain ⟨t467, A340, H⟩ := H
                  replace H : (if t467 = true then (none) else (if x8_4.length < 17592186044416 then (laws_FnTeamCounts.l1 k4 l0 t446 t449 (x8_4 ++ [rd (rd_L5 t449 x9_2) x12_4]) x9_2 (wrap64 (x12_4 + 1))) else (none))) = some r := H
                  have A34 := Aside0.mk A340; clear A340
                  by_cases c35 : t467 = true
                  ·subst c35
                   have H1 : (none) = some r := by rw [if_pos rfl] at H; exact H
                   clear H; have H := H1; clear H1
                   exact absurd H (by simp)
                  ·replace c35 := Bool.eq_false_iff.mpr c35
                   subst c35
                   have H1 : (if x8_4.length < 17592186044416 then (laws_FnTeamCounts.l1 k4 l0 t446 t449 (x8_4 ++ [rd (rd_L5 t449 x9_2) x12_4]) x9_2 (wrap64 (x12_4 + 1))) else (none)) = some r := by rw [if_neg (show ¬ (false = true) by decide)] at H; exact H
                   clear H; have H := H1; clear H1
                   by_cases c36 : x8_4.length < 17592186044416
                   ·rw [if_pos c36] at H
                    have LMc36 := Aside0.mk c36; clear c36
                    obtain ⟨y470, hy470⟩ : ∃ y_ : List Int, y_ = (x8_4 ++ [rd (rd_L5 t449 x9_2) x12_4]) := ⟨_, rfl⟩
                    replace H : (laws_FnTeamCounts.l1 k4 l0 t446 t449 y470 x9_2 (wrap64 (x12_4 + 1))) = some r := by first | (rw [hy470]; with_reducible exact H) | (have H2_ := (Option.bind_some _ _).symm.trans H; rw [hy470]; with_reducible exact H2_) | (have H2_ := (Option.bind_some _ _).symm.trans H; with_reducible exact H2_) | with_reducible exact H | (rw [hy470]; exact H) | exact H
                    have Ny470 := Aside0.mk hy470; clear hy470
                    have H' := Aside0.mk H
                    clear H
                    have p464 : 0 ≤ (x9_2 : Int) := od_
                    have q464 : x9_2 < (t449.length : Int) := od_
                    obtain ⟨ad464, A464_0, c464_0, e464, hx464_0, hl464_0, hi464_0⟩ := at_L5 (Kd.S_reads' HO_4.out).2.2 x9_2 p464 q464
                    obtain rfl : ad461 = ad464 := (by injection e464)
                    obtain ⟨ce464, hce464, hMe464, hcc464⟩ := Kd.S_get HO_4.out [] x9_2 p464 (by first | exact q464 | exact od_ | (have e_ := (Kd.S_reads' HO_4.out).1; omega))
                    obtain ⟨ve464_0, rfl, ge464_0⟩ := hMe464; have hv464_0 := hcc464 0 _ rfl
                    rw [Nat.add_zero, show ((Kd.slice 3 (Kd.int .i64))).sz = 1 from rfl, Nat.mul_one] at hv464_0
                    replace hv464_0 := Option.some.inj (hv464_0.symm.trans hx464_0)
                    rw [hv464_0] at ge464_0
                    have HL464_0 := Aside0.mk (show Kd.R (Kd.int .i64) 3 _ _ _ _ (rd_L5 t449 x9_2) from ge464_0)
                    clear hv464_0 ge464_0; clear hcc464 hce464; have HR464_0 := Aside0.mk hi464_0; have HC464_0 := Aside0.mk hl464_0; clear hi464_0 hl464_0
                    replace p464 := eq_true p464
                    replace q464 := eq_true q464
                    have p465 : 0 ≤ (x9_2 : Int) := od_
                    have q465 : x9_2 < (t449.length : Int) := od_
                    obtain ⟨ad465, A465_0, c465_0, e465, hx465_0, hl465_0, hi465_0⟩ := at_L5 (Kd.S_reads' HO_4.out).2.2 x9_2 p465 q465
                    obtain rfl : ad461 = ad465 := (by injection e465)
                    obtain ⟨ce465, hce465, hMe465, hcc465⟩ := Kd.S_get HO_4.out [] x9_2 p465 (by first | exact q465 | exact od_ | (have e_ := (Kd.S_reads' HO_4.out).1; omega))
                    obtain ⟨ve465_0, rfl, ge465_0⟩ := hMe465; have hv465_0 := hcc465 0 _ rfl
                    rw [Nat.add_zero, show ((Kd.slice 3 (Kd.int .i64))).sz = 1 from rfl, Nat.mul_one] at hv465_0
                    replace hv465_0 := Option.some.inj (hv465_0.symm.trans hx465_0)
                    rw [hv465_0] at ge465_0
                    have HL465_0 := Aside0.mk (show Kd.R (Kd.int .i64) 3 _ _ _ _ (rd_L5 t449 x9_2) from ge465_0)
                    clear hv465_0 ge465_0; clear hcc465 hce465; have HR465_0 := Aside0.mk hi465_0; have HC465_0 := Aside0.mk hl465_0; clear hi465_0 hl465_0
                    replace p465 := eq_true p465
                    replace q465 := eq_true q465
                    have ea_ := Option.some.inj (hx464_0.symm.trans hx465_0)
                    injection ea_ with ea_ en_ ec_
                    subst ea_; subst ec_; clear en_
                    have p466 : 0 ≤ (x12_4 : Int) := od_
                    have q466 : x12_4 < ((rd_L5 t449 x9_2).length : Int) := od_
                    obtain ⟨ad466, e466, hx466_0⟩ := Kd.at_int (by repeat (first | (with_reducible exact HR465_0.out) | (with_reducible refine Kd.C_alloc ?_ _) | (with_reducible refine Kd.C_drewN ?_ _) | (with_reducible refine Kd.C_drew ?_) | exact HR465_0.out)) x12_4 p466 q466
                    cases e466
                    replace p466 := eq_true p466
                    replace q466 := eq_true q466
                    obtain ⟨Ao37, co37, eo37⟩ := Kd.R_slice HO_8.out
                    subst eo37
                    go_wp2_with (first | ((with_reducible refine gate_callee (f := 16) rfl ?_); refine goesL_ (some 98) rfl rfl Tryz.func16 (by kernel_rfl) rfl #[.slice Ao37 x8_4.length co37, .int .i64 (rd (rd_L5 t449 x9_2) x12_4)] rfl gl_ ?_; (with_reducible refine (laws_rHas.calls k4 _ _ x8_4 (rd (rd_L5 t449 x9_2) x12_4) false _ ?side1 ?side2 A34.out).mono ?_); (case side1 => repeat (first | exact (Kd.R_reads' HO_8.out).2.2 | (with_reducible refine Kd.C_alloc ?_ _) | (with_reducible refine Kd.C_drewN ?_ _) | (with_reducible refine Kd.C_drew ?_))); (case side2 => exact (Kd.R_reads' HO_8.out).2.1); rintro e w' ⟨rfl, ⟨nd, rfl⟩⟩; refine ⟨_, rfl, ?_⟩; have p468 : 0 ≤ (x9_2 : Int) := od_; have q468 : x9_2 < (t449.length : Int) := od_; obtain ⟨ad468, A468_0, c468_0, e468, hx468_0, hl468_0, hi468_0⟩ := at_L5 (Kd.S_reads' HO_4.out).2.2 x9_2 p468 q468; obtain rfl : ad461 = ad468 := (by injection e468); obtain ⟨ce468, hce468, hMe468, hcc468⟩ := Kd.S_get HO_4.out [] x9_2 p468 (by first | exact q468 | exact od_ | (have e_ := (Kd.S_reads' HO_4.out).1; omega)); obtain ⟨ve468_0, rfl, ge468_0⟩ := hMe468; have hv468_0 := hcc468 0 _ rfl; rw [Nat.add_zero, show ((Kd.slice 3 (Kd.int .i64))).sz = 1 from rfl, Nat.mul_one] at hv468_0; replace hv468_0 := Option.some.inj (hv468_0.symm.trans hx468_0); rw [hv468_0] at ge468_0; have HL468_0 := Aside0.mk (show Kd.R (Kd.int .i64) 3 _ _ _ _ (rd_L5 t449 x9_2) from ge468_0); clear hv468_0 ge468_0; clear hcc468 hce468; have HR468_0 := Aside0.mk hi468_0; have HC468_0 := Aside0.mk hl468_0; clear hi468_0 hl468_0; replace p468 := eq_true p468; replace q468 := eq_true q468; have ea_ := Option.some.inj (hx464_0.symm.trans hx468_0); injection ea_ with ea_ en_ ec_; subst ea_; subst ec_; clear en_; have p469 : 0 ≤ (x12_4 : Int) := od_; have q469 : x12_4 < ((rd_L5 t449 x9_2).length : Int) := od_; obtain ⟨ad469, e469, hx469_0⟩ := Kd.at_int (by repeat (first | (with_reducible exact HR468_0.out) | (with_reducible refine Kd.C_alloc ?_ _) | (with_reducible refine Kd.C_drewN ?_ _) | (with_reducible refine Kd.C_drew ?_) | exact HR468_0.out)) x12_4 p469 q469; cases e469; replace p469 := eq_true p469; replace q469 := eq_true q469) | ((with_reducible refine gate_builtin (b := .append) (xs := #[.tmp 99, .tmp 107]) rfl ?_); (try (refine gate_guard (by rfl) ?_; dsimp only)); at_builtin; refine Kd.R_append (Kd.int .i64) (w0 := w) w.heap.size rfl (.tmp 99) (.tmp 107) 27 3 (.int .i64 0) 8 rfl Tryz.underlying27 info3 rfl (by decide) (by omega) (.slice Ao37 x8_4.length co37) x8_4 (rd (rd_L5 t449 x9_2) x12_4) [.int .i64 (rd (rd_L5 t449 x9_2) x12_4)] (fun _ => True) (fun _ => False) rfl rfl ?aP (fun _ hk => hk.elim) ?aF ?aO ?aB ?aS ?aL ?_; (case aP => exact rfl); (case aB => exact bx_); (case aF => exact (fun _ _ => trivial)); (case aO => exact (kr_ HO_8)); (case aS => exact (below_size bx_)); (case aL => have := LMc36.out; omega); intro v471 w38 ho hb hg hat; rw [← Ny470.out] at ho; have n0_ := Aside0.mk (Kd.R_over' (kr_ HO_3) (Kd.R_typed (kr_ HO_8)) (by decide) hg); have n1_ := Aside0.mk (Kd.S_after (ok := (fun _ => True)) (by (with_reducible repeat (first | apply Kd.S_alloc | apply Kd.S_drewN | apply Kd.S_drew)); exact Kd.S_mono HO_4.out (fun _ hk => ⟨trivial, hk⟩)) hg hat); have n2_ := Aside0.mk (Kd.R_after (ok := (fun k_ => some k_ ≠ (.slice (some ad461) t449.length co26 : Value).ownBlock)) (by (with_reducible repeat (first | apply Kd.R_alloc | apply Kd.R_drewN | apply Kd.R_drew)); exact Kd.R_mono HL464_0.out (fun _ hk => ⟨hk.2, hk.1⟩)) hg hat); have n3_ := Aside0.mk (Kd.R_after (ok := (fun k_ => some k_ ≠ (.slice (some ad461) t449.length co26 : Value).ownBlock)) (by (with_reducible repeat (first | apply Kd.R_alloc | apply Kd.R_drewN | apply Kd.R_drew)); exact Kd.R_mono HL465_0.out (fun _ hk => ⟨hk.2, hk.1⟩)) hg hat); have n4_ := Aside0.mk (Kd.R_after (ok := (fun k_ => some k_ ≠ (.slice (some ad461) t449.length co26 : Value).ownBlock)) (by (with_reducible repeat (first | apply Kd.R_alloc | apply Kd.R_drewN | apply Kd.R_drew)); exact Kd.R_mono HL468_0.out (fun _ hk => ⟨hk.2, hk.1⟩)) hg hat); have n5_ := Aside0.mk (hb); have n6_ := Aside0.mk (ho); clear HO_3; clear HO_4; clear HL464_0; clear HL465_0; clear HL468_0; clear HB; clear HO_8; have HO_3 := n0_; have HO_4 := n1_; have HL464_0 := n2_; have HL465_0 := n3_; have HL468_0 := n4_; have HB := n5_; have HO472 := n6_; clear n0_ n1_ n2_ n3_ n4_ n5_ n6_; clear ho hb hg hat))
                    go_roundg k4
                    case measure => have := HJ6.out; have := HK2.out; have := HJ24.out; have := HK4.out; omega
                    case rel => exact ⟨(y470), (wrap64 (x12_4 + 1)), z2_, H', ⟨by have := HJ6.out; have := HK2.out; have := HJ24.out; have := HK4.out; omega⟩, ⟨z22_⟩, ⟨z40_⟩, ⟨by (with_reducible repeat (first | apply Kd.R_alloc | apply Kd.R_drewN | apply Kd.R_drew)); exact HO472.out⟩, ⟨z4_⟩⟩
                   ·rw [if_neg c36] at H
                    exact absurd H (by simp)
                 ·rw [if_neg c33] at H
                  exact absurd H (by simp)
                ·rw [if_neg c32] at H
                 have c32b0 : decide (x12_4 < ((rd_L5 t449 x9_2).length : Int)) = false := decide_eq_false c32
                 clear c32
                 have H' := Aside0.mk H
                 clear H
                 have p464 : 0 ≤ (x9_2 : Int) := od_
                 have q464 : x9_2 < (t449.length : Int) := od_
                 obtain ⟨ad464, A464_0, c464_0, e464, hx464_0, hl464_0, hi464_0⟩ := at_L5 (Kd.S_reads' HO_4.out).2.2 x9_2 p464 q464
                 obtain rfl : ad461 = ad464 := (by injection e464)
                 obtain ⟨ce464, hce464, hMe464, hcc464⟩ := Kd.S_get HO_4.out [] x9_2 p464 (by first | exact q464 | exact od_ | (have e_ := (Kd.S_reads' HO_4.out).1; omega))
                 obtain ⟨ve464_0, rfl, ge464_0⟩ := hMe464; have hv464_0 := hcc464 0 _ rfl
                 rw [Nat.add_zero, show ((Kd.slice 3 (Kd.int .i64))).sz = 1 from rfl, Nat.mul_one] at hv464_0
                 replace hv464_0 := Option.some.inj (hv464_0.symm.trans hx464_0)
                 rw [hv464_0] at ge464_0
                 have HL464_0 := Aside0.mk (show Kd.R (Kd.int .i64) 3 _ _ _ _ (rd_L5 t449 x9_2) from ge464_0)
                 clear hv464_0 ge464_0; clear hcc464 hce464; have HR464_0 := Aside0.mk hi464_0; have HC464_0 := Aside0.mk hl464_0; clear hi464_0 hl464_0
                 replace p464 := eq_true p464
                 replace q464 := eq_true q464
                 go_wp2
                 go_roundg k4
                 case measure => have := HJ6.out; have := HK2.out; have := HJ24.out; have := HK4.out; omega
                 case rel => exact ⟨(x8_4), (wrap64 (x9_2 + 1)), z2_, H', ⟨by have := HJ6.out; have := HK2.out; have := HJ24.out; have := HK4.out; omega⟩, ⟨z22_⟩, ⟨z17_⟩, ⟨z51_⟩, ⟨z4_⟩⟩
               ·rw [if_neg c31] at H
                exact absurd H (by simp)
              ·rw [if_neg c30] at H
               exact absurd H (by simp)
        ·rw [if_neg c23] at H
         exact absurd H (by simp)
       ·rw [if_neg c22] at H
        have c22b0 : decide (x9_2 < (t449.length : Int)) = false := decide_eq_false c22
        clear c22; replace H := Option.bind_eq_some_iff.mp H; obtain ⟨⟨t473, t474, t475⟩, A390, H⟩ := H
        replace H : ((spec_CountTeams.f k2 t446).bind fun bt476 => (if t473 = bt476.1 then (if t474 = bt476.2.1 then (if (t475 != bt476.2.2) = true then (laws_FnTeamCounts.j4 k2 l0 true) else (if t474 > t473 then (laws_FnTeamCounts.j4 k2 l0 true) else (if t475 = true then (laws_FnTeamCounts.j4 k2 l0 ((t473 == 0) != ((t449.length : Int) == 0))) else (laws_FnTeamCounts.j4 k2 l0 false)))) else (laws_FnTeamCounts.j4 k2 l0 true)) else (laws_FnTeamCounts.j4 k2 l0 true))) = some r := H
        have A39 := Aside0.mk A390; clear A390; replace H := Option.bind_eq_some_iff.mp H; obtain ⟨⟨t476, t477, t478⟩, A400, H⟩ := H
        replace H : (if t473 = t476 then (if t474 = t477 then (if (t475 != t478) = true then (laws_FnTeamCounts.j4 k2 l0 true) else (if t474 > t473 then (laws_FnTeamCounts.j4 k2 l0 true) else (if t475 = true then (laws_FnTeamCounts.j4 k2 l0 ((t473 == 0) != ((t449.length : Int) == 0))) else (laws_FnTeamCounts.j4 k2 l0 false)))) else (laws_FnTeamCounts.j4 k2 l0 true)) else (laws_FnTeamCounts.j4 k2 l0 true)) = some r := H
        have A40 := Aside0.mk A400; clear A400; have HC41 := Aside0.mk H; clear H
        obtain ⟨Ao42, co42, eo42⟩ := Kd.S_slice HO_4.out
        subst eo42
        go_upto_region 23 with (first | ((with_reducible refine gate_callee (f := 27) rfl ?_); refine goesL_ (some 111) rfl rfl Tryz.func27 (by kernel_rfl) rfl #[.slice Ao9 t446.length co9] rfl gl_ ?_; (with_reducible refine (impl_CountTeams.calls k2 _ _ t446 t473 t474 t475 _ ?side1 ?side2 A39.out).mono ?_); (case side1 => exact z70_); (case side2 => exact (Kd.R_reads' HO_3.out).2.1); rintro e w43 ⟨rfl, hb⟩; refine ⟨_, rfl, ?_⟩; have n0_ := Aside0.mk (Kd.R_below (kr_ HO_3) hb); have n1_ := Aside0.mk (Kd.S_below z17_ hb); have n2_ := Aside0.mk (Kd.R_below (kr_ HO_8) hb); have n3_ := Aside0.mk (below_step bx_ hb); clear HO_3; clear HO_4; clear HO_8; clear HB; have HO_3 := n0_; have HO_4 := n1_; have HO_8 := n2_; have HB := n3_; clear n0_ n1_ n2_ n3_; (try clear hb); (try clear hk)) | ((with_reducible refine gate_callee (f := 28) rfl ?_); refine goesL_ (some 117) rfl rfl Tryz.func28 (by kernel_rfl) rfl #[.slice Ao9 t446.length co9] rfl gl_ ?_; (with_reducible refine (spec_CountTeams.calls k2 _ _ t446 t476 t477 t478 _ ?side1 ?side2 A40.out).mono ?_); (case side1 => exact z70_); (case side2 => exact (Kd.R_reads' HO_3.out).2.1); rintro e w44 ⟨rfl, hb⟩; refine ⟨_, rfl, ?_⟩; have n0_ := Aside0.mk (Kd.R_below (kr_ HO_3) hb); have n1_ := Aside0.mk (Kd.S_below z17_ hb); have n2_ := Aside0.mk (Kd.R_below (kr_ HO_8) hb); have n3_ := Aside0.mk (below_step bx_ hb); clear HO_3; clear HO_4; clear HO_8; clear HB; have HO_3 := n0_; have HO_4 := n1_; have HO_8 := n2_; have HB := n3_; clear n0_ n1_ n2_ n3_; (try clear hb); (try clear hk)))
        (try simp only [Act.put, zA, zB, zC])
        go_cut [149] (fun v149 wc => ∃ (kq : Nat) (x149_40 : Bool), v149 = .bool x149_40 ∧ Aside0 (laws_FnTeamCounts.j4 kq l0 x149_40 = some r) ∧ Aside0 (kq ≤ k2) ∧ Aside0 (Below w.heap.size w wc))
        case first =>
         have H := HC41.out; clear HC41
         by_cases c45 : t473 = t476
         ·rw [if_pos c45] at H
          have c45b0 : (t473 == t476) = true := beq_iff_eq.mpr c45
          have c45b1 : (t473 != t476) = false := bne_eq_false_iff_eq.mpr c45
          clear c45
          (first | rw [c45b0] | (simp only [i64_w, i32_w]; rw [c45b0]) | skip)
          by_cases c46 : t474 = t477
          ·rw [if_pos c46] at H
           have c46b0 : (t474 == t477) = true := beq_iff_eq.mpr c46
           have c46b1 : (t474 != t477) = false := bne_eq_false_iff_eq.mpr c46
           clear c46
           by_cases c47 : (t475 != t478) = true
           ·rw [if_pos c47] at H
            have c47b0 : (t475 != t478) = true := c47
            (try (have c47b1 : decide (t475 = t478) = false := by simpa using c47))
            (try (have c47b2 : (t475 == t478) = false := by simpa using c47))
            (try (have c47b3 : ¬ (t475 = t478) := by simpa using c47))
            clear c47
            have H' := Aside0.mk H
            clear H
            go_wp2
            go_meet
            case rel => exact ⟨_, (true), z2_, H', ⟨by have := HJ6.out; have := HK2.out; first | omega | exact Nat.le_refl _⟩, ⟨z4_⟩⟩
           ·rw [if_neg c47] at H
            have c47b0 : (t475 != t478) = false := by simpa using c47
            (try (have c47b1 : decide (t475 = t478) = true := by simpa using c47))
            (try (have c47b2 : (t475 == t478) = true := by simpa using c47))
            clear c47
            by_cases c48 : t474 > t473
            ·rw [if_pos c48] at H
             have c48b0 : decide (t473 < t474) = true := decide_eq_true c48
             clear c48
             have H' := Aside0.mk H
             clear H
             go_wp2
             go_meet
             case rel => exact ⟨_, (true), z2_, H', ⟨by have := HJ6.out; have := HK2.out; first | omega | exact Nat.le_refl _⟩, ⟨z4_⟩⟩
            ·rw [if_neg c48] at H
             have c48b0 : decide (t473 < t474) = false := decide_eq_false c48
             clear c48
             by_cases c49 : t475 = true
             ·subst c49
              have H1 : (laws_FnTeamCounts.j4 k2 l0 ((t473 == 0) != ((t449.length : Int) == 0))) = some r := by rw [if_pos rfl] at H; exact H
              clear H; have H := H1; clear H1
              have H' := Aside0.mk H
              clear H
              go_wp2
              go_meet
              case rel => exact ⟨_, (((t473 == 0) != ((t449.length : Int) == 0))), z2_, H', ⟨by have := HJ6.out; have := HK2.out; first | omega | exact Nat.le_refl _⟩, ⟨z4_⟩⟩
             ·replace c49 := Bool.eq_false_iff.mpr c49
              subst c49
              have H1 : (laws_FnTeamCounts.j4 k2 l0 false) = some r := by rw [if_neg (show ¬ (false = true) by decide)] at H; exact H
              clear H; have H := H1; clear H1
              have H' := Aside0.mk H
              clear H
              go_wp2
              go_meet
              case rel => exact ⟨_, (false), z2_, H', ⟨by have := HJ6.out; have := HK2.out; first | omega | exact Nat.le_refl _⟩, ⟨z4_⟩⟩
          ·rw [if_neg c46] at H
           have c46b0 : (t474 == t477) = false := beq_eq_false_iff_ne.mpr c46
           have c46b1 : (t474 != t477) = true := bne_iff_ne.mpr c46
           have H' := Aside0.mk H
           clear H
           go_wp2
           go_meet
           case rel => exact ⟨_, (true), z2_, H', ⟨by have := HJ6.out; have := HK2.out; first | omega | exact Nat.le_refl _⟩, ⟨z4_⟩⟩
         ·rw [if_neg c45] at H
          have c45b0 : (t473 == t476) = false := beq_eq_false_iff_ne.mpr c45
          have c45b1 : (t473 != t476) = true := bne_iff_ne.mpr c45
          (first | rw [c45b0] | (simp only [i64_w, i32_w]; rw [c45b0]) | skip)
          have H' := Aside0.mk H
          clear H
          go_wp2
          go_meet
          case rel => exact ⟨_, (true), z2_, H', ⟨by have := HJ6.out; have := HK2.out; first | omega | exact Nat.le_refl _⟩, ⟨z4_⟩⟩
        case rest =>
         clear HC41; (try clear c3); (try clear c12); (try clear c12b0); (try clear c12b1); (try clear c12b2); (try clear c14); (try clear c19); (try clear c22); (try clear c22b0); (try clear c23); (try clear c23b0); (try clear c28); (try clear c29); (try clear c30); (try clear c30b0); (try clear c31); (try clear c31b0); (try clear c32); (try clear c32b0); (try clear c33); (try clear c33b0); (try clear c35); (try clear c36); (try clear c45); (try clear c45b0); (try clear c45b1); (try clear c46); (try clear c46b0); (try clear c46b1); (try clear c47); (try clear c47b0); (try clear c47b1); (try clear c47b2); (try clear c48); (try clear c48b0); (try clear c49); (try clear hx461_0); (try clear hx464_0); (try clear hx465_0); (try clear hx466_0); (try clear hx468_0); (try clear hx469_0); (try clear p461); (try clear p464); (try clear p465); (try clear p466); (try clear p468); (try clear p469); (try clear q461); (try clear q464); (try clear q465); (try clear q466); (try clear q468); (try clear q469); obtain ⟨kq, x149_40, rfl, HA, HJ40, HB⟩ := hcut
         cases kq with
         | zero => exact absurd HA.out (by simp [laws_FnTeamCounts.j4])
         | succ kj40 =>
          have H := HA.out; clear HA
          simp only [laws_FnTeamCounts.j4] at H
          by_cases c50 : x149_40 = true
          ·subst c50
           have H1 : (none) = some r := by rw [if_pos rfl] at H; exact H
           clear H; have H := H1; clear H1
           exact absurd H (by simp)
          ·replace c50 := Bool.eq_false_iff.mpr c50
           subst c50
           have H1 : ((spec_DrawWithSkills.f kj40 l0).bind fun bt479 => ((impl_WithSkills.f kj40 bt479.1 bt479.2).bind fun bt483 => ((spec_WithSkills.f kj40 bt479.1 bt479.2).bind fun bt487 => (if (bt483.2 != bt487.2) = true then (laws_FnTeamCounts.j5 kj40 l0 true) else ((laws_rInts.f kj40 bt483.1 bt487.1).bind fun t491 => (laws_FnTeamCounts.j5 kj40 l0 (!t491))))))) = some r := by rw [if_neg (show ¬ (false = true) by decide)] at H; exact H
           clear H; have H := H1; clear H1; replace H := Option.bind_eq_some_iff.mp H; obtain ⟨⟨t479, t480⟩, A510, H⟩ := H
           replace H : ((impl_WithSkills.f kj40 t479 t480).bind fun bt483 => ((spec_WithSkills.f kj40 t479 t480).bind fun bt487 => (if (bt483.2 != bt487.2) = true then (laws_FnTeamCounts.j5 kj40 l0 true) else ((laws_rInts.f kj40 bt483.1 bt487.1).bind fun t491 => (laws_FnTeamCounts.j5 kj40 l0 (!t491)))))) = some r := H
           have A51 := Aside0.mk A510; clear A510; replace H := Option.bind_eq_some_iff.mp H; obtain ⟨⟨t483, t484⟩, A520, H⟩ := H
           replace H : ((spec_WithSkills.f kj40 t479 t480).bind fun bt487 => (if (t484 != bt487.2) = true then (laws_FnTeamCounts.j5 kj40 l0 true) else ((laws_rInts.f kj40 t483 bt487.1).bind fun t491 => (laws_FnTeamCounts.j5 kj40 l0 (!t491))))) = some r := H
           have A52 := Aside0.mk A520; clear A520; replace H := Option.bind_eq_some_iff.mp H; obtain ⟨⟨t487, t488⟩, A530, H⟩ := H
           replace H : (if (t484 != t488) = true then (laws_FnTeamCounts.j5 kj40 l0 true) else ((laws_rInts.f kj40 t483 t487).bind fun t491 => (laws_FnTeamCounts.j5 kj40 l0 (!t491)))) = some r := H
           have A53 := Aside0.mk A530; clear A530; have HC54 := Aside0.mk H; clear H
           go_upto_region 28 with (first | ((with_reducible refine gate_callee (f := 29) rfl ?_); refine goesL_ (some 152) rfl rfl Tryz.func29 (by kernel_rfl) rfl #[.slice A0 l0.length c0] rfl gl_ ?_; (with_reducible refine (spec_DrawWithSkills.calls kj40 _ _ l0 t479 t480 _ ?side1 ?side2 A51.out).mono ?_); (case side1 => exact z11_); (case side2 => exact HC0.out); rintro e w55 ⟨v481, rfl, ho0, hb⟩; refine ⟨_, rfl, ?_⟩; have n0_ := Aside0.mk (Kd.R_lower ho0 (below_size bx_)); have n1_ := Aside0.mk (below_step bx_ hb); clear HB; have HO482 := n0_; have HB := n1_; clear n0_ n1_; (try clear hb); (try clear hk); (try clear ho0); obtain ⟨Ao56, co56, eo56⟩ := Kd.R_slice HO482.out; subst eo56) | ((with_reducible refine gate_callee (f := 30) rfl ?_); refine goesL_ (some 158) rfl rfl Tryz.func30 (by kernel_rfl) rfl #[.slice Ao56 t479.length co56, .int .i64 t480] rfl gl_ ?_; (with_reducible refine (impl_WithSkills.calls kj40 _ _ t479 t480 t483 t484 _ ?side1 ?side2 A52.out).mono ?_); (case side1 => repeat (first | exact (Kd.R_reads' HO482.out).2.2 | (with_reducible refine Kd.C_alloc ?_ _) | (with_reducible refine Kd.C_drewN ?_ _) | (with_reducible refine Kd.C_drew ?_))); (case side2 => exact (Kd.R_reads' HO482.out).2.1); rintro e w57 ⟨v485, rfl, ho0, hb⟩; refine ⟨_, rfl, ?_⟩; have n0_ := Aside0.mk (Kd.R_below (kr_ HO482) hb); have n1_ := Aside0.mk (Kd.R_lower ho0 (below_size bx_)); have n2_ := Aside0.mk (below_step bx_ hb); clear HO482; clear HB; have HO482 := n0_; have HO486 := n1_; have HB := n2_; clear n0_ n1_ n2_; (try clear hb); (try clear hk); (try clear ho0)) | ((with_reducible refine gate_callee (f := 31) rfl ?_); refine goesL_ (some 164) rfl rfl Tryz.func31 (by kernel_rfl) rfl #[.slice Ao56 t479.length co56, .int .i64 t480] rfl gl_ ?_; (with_reducible refine (spec_WithSkills.calls kj40 _ _ t479 t480 t487 t488 _ ?side1 ?side2 A53.out).mono ?_); (case side1 => repeat (first | exact (Kd.R_reads' HO482.out).2.2 | (with_reducible refine Kd.C_alloc ?_ _) | (with_reducible refine Kd.C_drewN ?_ _) | (with_reducible refine Kd.C_drew ?_))); (case side2 => exact (Kd.R_reads' HO482.out).2.1); rintro e w58 ⟨v489, rfl, ho0, hb⟩; refine ⟨_, rfl, ?_⟩; have n0_ := Aside0.mk (Kd.R_below (kr_ HO482) hb); have n1_ := Aside0.mk (Kd.R_elder' (kr_ HO486) (Kd.R_base ho0) hb); have n2_ := Aside0.mk (Kd.R_lower (Kd.R_new' ho0 (Kd.R_lt (kr_ HO486))) (below_size bx_)); have n3_ := Aside0.mk (below_step bx_ hb); clear HO482; clear HO486; clear HB; have HO482 := n0_; have HO486 := n1_; have HO490 := n2_; have HB := n3_; clear n0_ n1_ n2_ n3_; (try clear hb); (try clear hk); (try clear ho0)))
           (try simp only [Act.put, zA, zB, zC])
           go_cut [175] (fun v175 wc => ∃ (kq : Nat) (x175_53 : Bool), v175 = .bool x175_53 ∧ Aside0 (laws_FnTeamCounts.j5 kq l0 x175_53 = some r) ∧ Aside0 (kq ≤ kj40) ∧ Aside0 (Below w.heap.size w wc))
           case first =>
            have H := HC54.out; clear HC54
            by_cases c59 : (t484 != t488) = true
            ·rw [if_pos c59] at H
             have c59b0 : (t484 != t488) = true := c59
             (try (have c59b1 : decide (t484 = t488) = false := by simpa using c59))
             (try (have c59b2 : (t484 == t488) = false := by simpa using c59))
             (try (have c59b3 : ¬ (t484 = t488) := by simpa using c59))
             clear c59
             (first | rw [c59b0] | (simp only [i64_w, i32_w]; rw [c59b0]) | skip)
             have H' := Aside0.mk H
             clear H
             go_wp2
             go_meet
             case rel => exact ⟨_, (true), z2_, H', ⟨by have := HJ6.out; have := HK2.out; have := HJ40.out; first | omega | exact Nat.le_refl _⟩, ⟨z4_⟩⟩
            ·rw [if_neg c59] at H
             have c59b0 : (t484 != t488) = false := by simpa using c59
             (try (have c59b1 : decide (t484 = t488) = true := by simpa using c59))
             (try (have c59b2 : (t484 == t488) = true := by simpa using c59))
             clear c59
             (first | rw [c59b0] | (simp only [i64_w, i32_w]; rw [c59b0]) | skip)
             replace H := Option.bind_eq_some_iff.mp H; obtain ⟨t491, A600, H⟩ := H
             replace H : (laws_FnTeamCounts.j5 kj40 l0 (!t491)) = some r := H
             have A60 := Aside0.mk A600; clear A600
             have H' := Aside0.mk H
             clear H
             obtain ⟨Ao61, co61, eo61⟩ := Kd.R_slice HO486.out
             subst eo61
             obtain ⟨Ao62, co62, eo62⟩ := Kd.R_slice HO490.out
             subst eo62
             go_wp2_with (first | (go_at_call 9; (with_reducible refine (laws_rInts.calls kj40 _ _ t483 _ _ t487 t491 _ ?side1 ?side2 ?side3 ?side4 A60.out).mono ?_); (case side1 => repeat (first | exact (Kd.R_reads' HO486.out).2.2 | (with_reducible refine Kd.C_alloc ?_ _) | (with_reducible refine Kd.C_drewN ?_ _) | (with_reducible refine Kd.C_drew ?_))); (case side2 => exact (Kd.R_reads' HO486.out).2.1); (case side3 => repeat (first | exact (Kd.R_reads' HO490.out).2.2 | (with_reducible refine Kd.C_alloc ?_ _) | (with_reducible refine Kd.C_drewN ?_ _) | (with_reducible refine Kd.C_drew ?_))); (case side4 => exact (Kd.R_reads' HO490.out).2.1); rintro e w' ⟨rfl, ⟨nd, rfl⟩⟩))
             go_meet
             case rel => exact ⟨_, (!t491), z2_, H', ⟨by have := HJ6.out; have := HK2.out; have := HJ40.out; first | omega | exact Nat.le_refl _⟩, ⟨z4_⟩⟩
           case rest =>
            clear HC54; (try clear c3); (try clear c12); (try clear c12b0); (try clear c12b1); (try clear c12b2); (try clear c14); (try clear c19); (try clear c22); (try clear c22b0); (try clear c23); (try clear c23b0); (try clear c28); (try clear c29); (try clear c30); (try clear c30b0); (try clear c31); (try clear c31b0); (try clear c32); (try clear c32b0); (try clear c33); (try clear c33b0); (try clear c35); (try clear c36); (try clear c45); (try clear c45b0); (try clear c45b1); (try clear c46); (try clear c46b0); (try clear c46b1); (try clear c47); (try clear c47b0); (try clear c47b1); (try clear c47b2); (try clear c48); (try clear c48b0); (try clear c49); (try clear c50); (try clear c59); (try clear c59b0); (try clear c59b1); (try clear c59b2); (try clear hx461_0); (try clear hx464_0); (try clear hx465_0); (try clear hx466_0); (try clear hx468_0); (try clear hx469_0); (try clear p461); (try clear p464); (try clear p465); (try clear p466); (try clear p468); (try clear p469); (try clear q461); (try clear q464); (try clear q465); (try clear q466); (try clear q468); (try clear q469); obtain ⟨kq, x175_53, rfl, HA, HJ53, HB⟩ := hcut
            cases kq with
            | zero => exact absurd HA.out (by simp [laws_FnTeamCounts.j5])
            | succ kj53 =>
             have H := HA.out; clear HA
             simp only [laws_FnTeamCounts.j5] at H
             by_cases c63 : x175_53 = true
             ·subst c63
              have H1 : (none) = some r := by rw [if_pos rfl] at H; exact H
              clear H; have H := H1; clear H1
              exact absurd H (by simp)
             ·replace c63 := Bool.eq_false_iff.mpr c63
              subst c63
              have H1 : ((spec_DrawSkillsOf.f kj53 l0).bind fun bt492 => ((impl_SkillsOf.f kj53 bt492.1 bt492.2).bind fun bt498 => ((spec_SkillsOf.f kj53 bt492.1 bt492.2).bind fun bt500 => (if bt498.1 = bt500.1 then (some (bt498.2 == bt500.2)) else (none))))) = some r := by rw [if_neg (show ¬ (false = true) by decide)] at H; exact H
              clear H; have H := H1; clear H1; replace H := Option.bind_eq_some_iff.mp H; obtain ⟨⟨t492, t493⟩, A640, H⟩ := H
              replace H : ((impl_SkillsOf.f kj53 t492 t493).bind fun bt498 => ((spec_SkillsOf.f kj53 t492 t493).bind fun bt500 => (if bt498.1 = bt500.1 then (some (bt498.2 == bt500.2)) else (none)))) = some r := H
              have A64 := Aside0.mk A640; clear A640; replace H := Option.bind_eq_some_iff.mp H; obtain ⟨⟨t498, t499⟩, A650, H⟩ := H
              replace H : ((spec_SkillsOf.f kj53 t492 t493).bind fun bt500 => (if t498 = bt500.1 then (some (t499 == bt500.2)) else (none))) = some r := H
              have A65 := Aside0.mk A650; clear A650; replace H := Option.bind_eq_some_iff.mp H; obtain ⟨⟨t500, t501⟩, A660, H⟩ := H
              replace H : (if t498 = t500 then (some (t499 == t501)) else (none)) = some r := H
              have A66 := Aside0.mk A660; clear A660
              by_cases c67 : t498 = t500
              ·rw [if_pos c67] at H
               have c67b0 : (t498 == t500) = true := beq_iff_eq.mpr c67
               have c67b1 : (t498 != t500) = false := bne_eq_false_iff_eq.mpr c67
               clear c67
               obtain rfl := Option.some.inj H
               go_wp2_with (first | ((with_reducible refine gate_callee (f := 32) rfl ?_); refine goesL_ (some 178) rfl rfl Tryz.func32 (by kernel_rfl) rfl #[.slice A0 l0.length c0] rfl gl_ ?_; (with_reducible refine (spec_DrawSkillsOf.calls kj53 _ _ l0 t492 t493 _ ?side1 ?side2 A64.out).mono ?_); (case side1 => exact z11_); (case side2 => exact HC0.out); rintro e w68 ⟨v494, v496, rfl, ho0, ho1, hb⟩; refine ⟨_, rfl, ?_⟩; have n0_ := Aside0.mk (Kd.R_lower ho0 (below_size bx_)); have n1_ := Aside0.mk (Kd.R_lower ho1 (below_size bx_)); have n2_ := Aside0.mk (below_step bx_ hb); clear HB; have HO495 := n0_; have HO497 := n1_; have HB := n2_; clear n0_ n1_ n2_; (try clear hb); (try clear hk); (try clear ho0); (try clear ho1); obtain ⟨Ao69, co69, eo69⟩ := Kd.R_slice HO495.out; subst eo69; obtain ⟨Ao70, co70, eo70⟩ := Kd.R_slice HO497.out; subst eo70) | ((with_reducible refine gate_callee (f := 20) rfl ?_); refine goesL_ (some 184) rfl rfl Tryz.func20 (by kernel_rfl) rfl #[.slice Ao69 t492.length co69, .slice Ao70 t493.length co70] rfl gl_ ?_; (with_reducible refine (impl_SkillsOf.calls kj53 _ _ t492 _ _ t493 t498 t499 _ ?side1 ?side2 ?side3 ?side4 A65.out).mono ?_); (case side1 => repeat (first | exact (Kd.R_reads' HO495.out).2.2 | (with_reducible refine Kd.C_alloc ?_ _) | (with_reducible refine Kd.C_drewN ?_ _) | (with_reducible refine Kd.C_drew ?_))); (case side2 => exact (Kd.R_reads' HO495.out).2.1); (case side3 => repeat (first | exact (Kd.R_reads' HO497.out).2.2 | (with_reducible refine Kd.C_alloc ?_ _) | (with_reducible refine Kd.C_drewN ?_ _) | (with_reducible refine Kd.C_drew ?_))); (case side4 => exact (Kd.R_reads' HO497.out).2.1); rintro e w71 ⟨rfl, hb⟩; refine ⟨_, rfl, ?_⟩; have n0_ := Aside0.mk (Kd.R_below (kr_ HO495) hb); have n1_ := Aside0.mk (Kd.R_below (kr_ HO497) hb); have n2_ := Aside0.mk (below_step bx_ hb); clear HO495; clear HO497; clear HB; have HO495 := n0_; have HO497 := n1_; have HB := n2_; clear n0_ n1_ n2_; (try clear hb); (try clear hk)) | ((with_reducible refine gate_callee (f := 33) rfl ?_); refine goesL_ (some 190) rfl rfl Tryz.func33 (by kernel_rfl) rfl #[.slice Ao69 t492.length co69, .slice Ao70 t493.length co70] rfl gl_ ?_; (with_reducible refine (spec_SkillsOf.calls kj53 _ _ t492 _ _ t493 t500 t501 _ ?side1 ?side2 ?side3 ?side4 A66.out).mono ?_); (case side1 => repeat (first | exact (Kd.R_reads' HO495.out).2.2 | (with_reducible refine Kd.C_alloc ?_ _) | (with_reducible refine Kd.C_drewN ?_ _) | (with_reducible refine Kd.C_drew ?_))); (case side2 => exact (Kd.R_reads' HO495.out).2.1); (case side3 => repeat (first | exact (Kd.R_reads' HO497.out).2.2 | (with_reducible refine Kd.C_alloc ?_ _) | (with_reducible refine Kd.C_drewN ?_ _) | (with_reducible refine Kd.C_drew ?_))); (case side4 => exact (Kd.R_reads' HO497.out).2.1); rintro e w72 ⟨rfl, hb⟩; refine ⟨_, rfl, ?_⟩; have n0_ := Aside0.mk (Kd.R_below (kr_ HO495) hb); have n1_ := Aside0.mk (Kd.R_below (kr_ HO497) hb); have n2_ := Aside0.mk (below_step bx_ hb); clear HO495; clear HO497; clear HB; have HO495 := n0_; have HO497 := n1_; have HB := n2_; clear n0_ n1_ n2_; (try clear hb); (try clear hk)))
               go_ret
               exact ⟨z7_, z4_⟩
              ·rw [if_neg c67] at H
               exact absurd H (by simp)

end Go.Proofs.YtafdklajmklmkaaGreatDoor.XFnTeamCounts
