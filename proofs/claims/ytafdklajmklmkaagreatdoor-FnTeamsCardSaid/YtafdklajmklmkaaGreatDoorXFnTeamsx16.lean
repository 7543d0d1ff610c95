/- Contracts of the functions that the law FnTeams comes to: each is told as a plain function of its arguments, and the machine's call does what that function says; no condition. Written by programs (print.py, xprint.py); Lean checks it. -/
import Derived.Test.YtafdklajmklmkaaGreatDoorXFnTeamsx0
import Derived.Test.YtafdklajmklmkaaGreatDoorXFnTeamsx2
import Derived.Test.YtafdklajmklmkaaGreatDoorXFnTeamsx4
import Derived.Test.YtafdklajmklmkaaGreatDoorXFnTeamsx5
import Derived.Test.YtafdklajmklmkaaGreatDoorXFnTeamsx8
import Derived.Test.YtafdklajmklmkaaGreatDoorXFnTeamsx11
import Derived.Test.YtafdklajmklmkaaGreatDoorXFnTeamsx12
import Derived.Test.YtafdklajmklmkaaGreatDoorXFnTeamsx13
import Derived.Test.YtafdklajmklmkaaGreatDoorXFnTeamsx14
import Derived.Test.YtafdklajmklmkaaGreatDoorXFnTeamsx15
namespace Go.Proofs.YtafdklajmklmkaaGreatDoor.XFnTeams
open Go.RowKit Go.Proofs.YtafdklajmklmkaaGreatDoorW.PrintWords Go.Proofs.YtafdklajmklmkaaGreatDoorW.PrintLast Go.Proofs.YtafdklajmklmkaaGreatDoorW.PrintMore
open List renaming setIfInBounds_toArray → zA, set_cons_zero → zB, set_cons_succ → zC
attribute [local go_sem] max2_int min2_int max_two min_two max_three min_three max_four min_four   -- for this text's walks alone
open Bool renaming true → T, false → F
set_option linter.unusedVariables false
set_option linter.unusedSimpArgs false

/-! ### laws_FnTeams: function 3 -/
mutual
def laws_FnTeams.j0 : Nat → List Int → List (S41) → Int → List Int → Bool → Bool → Option (Bool)
 | 0, _, _, _, _, _, _ => none
 | k + 1, x0, x3, x4, x5, x6, x60 => if x60 = true then (none) else (if x6 = true then ((impl_IsTeam.f k x3 x5).bind fun bt446 => ((impl_MissingSkills.f k x3 x5 x4).bind fun bt448 => (if bt446.2 = true then (if bt446.1 = true then (if bt448.2 = true then (if bt448.1 = 0 then (laws_FnTeams.j1 k x0) else (none)) else (none)) else (none)) else (none)))) else (laws_FnTeams.j1 k x0))
def laws_FnTeams.j1 : Nat → List Int → Option (Bool)
 | 0, _ => none
 | k + 1, x0 => (spec_DrawGoOnTrip.f k x0).bind fun bt450 => ((impl_GoOnTrip.f k bt450.1 bt450.2).bind fun bt456 => ((spec_GoOnTrip.f k bt450.1 bt450.2).bind fun bt460 => (if (bt456.2 != bt460.2) = true then (laws_FnTeams.j2 k x0 bt450.1 bt450.2 bt456.1 bt456.2 true) else ((laws_rPeople.f k bt456.1 bt460.1).bind fun t464 => (laws_FnTeams.j2 k x0 bt450.1 bt450.2 bt456.1 bt456.2 (!t464))))))
def laws_FnTeams.j2 : Nat → List Int → List (S41) → List Int → List (S41) → Bool → Bool → Option (Bool)
 | 0, _, _, _, _, _, _ => none
 | k + 1, x0, x13, x14, x15, x16, x114 => if x114 = true then (none) else (laws_FnTeams.l0 k x0 x13 x14 x15 x16 0)
def laws_FnTeams.l0 : Nat → List Int → List (S41) → List Int → List (S41) → Bool → Int → Option (Bool)
 | 0, _, _, _, _, _, _ => none
 | k + 1, x0, x13, x14, x15, x16, x19 => if x19 < (x15.length : Int) then (if 0 ≤ x19 then (if x19 < (x13.length : Int) then (if (wrap64 (((rd_T41 x15 x19).f3) - ((rd_T41 x13 x19).f3))) = 1 then (if ((rd_T41 x15 x19).f3) = ((rd_T41 x13 x19).f3) then (laws_FnTeams.l0 k x0 x13 x14 x15 x16 (wrap64 (x19 + 1))) else ((laws_rHas.f k x14 ((rd_T41 x13 x19).f0)).bind fun t470 => (if t470 = true then (laws_FnTeams.l0 k x0 x13 x14 x15 x16 (wrap64 (x19 + 1))) else (none)))) else ((laws_rHas.f k x14 ((rd_T41 x13 x19).f0)).bind fun t472 => (if t472 = true then (none) else (if ((rd_T41 x15 x19).f3) = ((rd_T41 x13 x19).f3) then (laws_FnTeams.l0 k x0 x13 x14 x15 x16 (wrap64 (x19 + 1))) else ((laws_rHas.f k x14 ((rd_T41 x13 x19).f0)).bind fun t476 => (if t476 = true then (laws_FnTeams.l0 k x0 x13 x14 x15 x16 (wrap64 (x19 + 1))) else (none))))))) else (none)) else (none)) else ((impl_IsTeam.f k x13 x14).bind fun bt477 => ((spec_IsTeam.f k x13 x14).bind fun bt479 => (if (bt477.1 != bt479.1) = true then (laws_FnTeams.j4 k x0 true) else (if (bt477.2 != bt479.2) = true then (laws_FnTeams.j4 k x0 true) else (if x16 = true then (laws_FnTeams.j4 k x0 (!bt477.1)) else (laws_FnTeams.j4 k x0 false))))))
def laws_FnTeams.j4 : Nat → List Int → Bool → Option (Bool)
 | 0, _, _ => none
 | k + 1, x0, x191 => if x191 = true then (none) else ((spec_DrawMissingSkills.f k x0).bind fun bt481 => ((impl_MissingSkills.f k bt481.1 bt481.2.1 bt481.2.2).bind fun bt488 => ((spec_MissingSkills.f k bt481.1 bt481.2.1 bt481.2.2).bind fun bt490 => (if bt488.1 = bt490.1 then (laws_FnTeams.j5 k bt481.1 bt481.2.1 bt481.2.2 bt488.1 bt488.2 (bt488.2 != bt490.2)) else (laws_FnTeams.j5 k bt481.1 bt481.2.1 bt481.2.2 bt488.1 bt488.2 true)))))
def laws_FnTeams.j5 : Nat → List (S41) → List Int → Int → Int → Bool → Bool → Option (Bool)
 | 0, _, _, _, _, _, _ => none
 | k + 1, x24, x25, x26, x27, x28, x219 => if x219 = true then (none) else (if x28 = true then ((impl_SkillsOf.f k x24 x25).bind fun bt492 => (if bt492.2 = true then (if (Go.bits .and .i64 x27 bt492.1) = 0 then (laws_FnTeams.j6 k x24 ((Go.bits .or .i64 x27 (Go.bits .and .i64 bt492.1 x26)) != x26)) else (laws_FnTeams.j6 k x24 true)) else (laws_FnTeams.j6 k x24 true))) else ((impl_ArePeople.f k x24).bind fun t496 => ((spec_ArePeople.f k x24).bind fun t497 => (some (t496 == t497)))))
def laws_FnTeams.j6 : Nat → List (S41) → Bool → Option (Bool)
 | 0, _, _ => none
 | k + 1, x24, x243 => if x243 = true then (none) else ((impl_ArePeople.f k x24).bind fun t494 => ((spec_ArePeople.f k x24).bind fun t495 => (some (t494 == t495))))
end
def laws_FnTeams.f (k : Nat) (l0 : List Int) : Option (Bool) := (laws_rBig.f l0).bind fun t432 => (if t432 = true then (some true) else ((spec_DrawSmallestTeam.f k l0).bind fun bt433 => ((impl_SmallestTeam.f k bt433.1 bt433.2).bind fun bt437 => ((spec_SmallestTeam.f k bt433.1 bt433.2).bind fun bt441 => (if (bt437.2 != bt441.2) = true then (laws_FnTeams.j0 k l0 bt433.1 bt433.2 bt437.1 bt437.2 true) else ((laws_rInts.f k bt437.1 bt441.1).bind fun t445 => (laws_FnTeams.j0 k l0 bt433.1 bt433.2 bt437.1 bt437.2 (!t445))))))))
def laws_FnTeams.T21 : Bool × List (List Nat × List Nat) := (true, [([], []), ([], []), ([0, 1], [0, 1]), ([2], [2]), ([3], [3]), ([], []), ([], []), ([5, 6], [5, 6]), ([7], [7]), ([8], [8]), ([4, 9], [4, 9]), ([10], [10]), ([11], [11]), ([12], [12]), ([12], [12]), ([12], [12]), ([14, 15, 12], [12, 14, 15]), ([16, 12], [12, 16]), ([17, 12], [12, 17]), ([13, 18, 12, 12], [12, 13, 18]), ([12, 19], [12, 19]), ([20, 19], [20]), ([21], [21]), ([21], [21]), ([22, 23, 21], [21, 22, 23]), ([24, 21], [21, 24]), ([25, 21], [21, 25]), ([21], [21]), ([21], [21]), ([27, 28, 21], [21, 27, 28]), ([29, 21], [21, 29]), ([30, 21], [21, 30]), ([26, 31, 21], [21, 26, 31]), ([32, 21, 21], [21, 32]), ([33], [33]), ([33], [33]), ([33], [33]), ([35, 36, 33], [33, 35, 36]), ([37, 33], [33, 37]), ([38, 33], [33, 38]), ([34, 39, 33, 33], [33, 34, 39]), ([40, 33], [33, 40]), ([33, 41, 21], [21, 33, 41]), ([21, 42], [21, 42])])
def laws_FnTeams.B21 : List Nat := [0, 0, 3, 7, 15, 0, 0, 96, 224, 480, 1023, 2047, 4095, 8191, 8191, 8191, 57343, 122879, 253951, 524287, 1048575, 2097151, 4194303, 4194303, 16777215, 33554431, 67108863, 4194303, 4194303, 406847487, 943718399, 2017460223, 4294967295, 8589934591, 17179869183, 17179869183, 17179869183, 120259084287, 257698037759, 532575944703, 1099511627775, 2199023255551, 4398046511103, 8796093022207]
theorem laws_FnTeams.tab21 : rtab .any (opsOf Tryz.f3 21) = laws_FnTeams.T21 := by kernel_rfl
theorem laws_FnTeams.bits21 : waitsOk laws_FnTeams.T21.2 laws_FnTeams.B21 = true := by kernel_rfl
set_option maxHeartbeats 8000000 in
set_option maxRecDepth 100000 in
theorem laws_FnTeams.calls (k : Nat) (A0 : Option Addr) (c0 : Nat) (l0 : List Int) (r : Bool) (w : World) (hr0 : Kd.C (Kd.int .u8) w A0 l0.length l0) (hc0 : l0.length ≤ c0) (h : laws_FnTeams.f k l0 = some r) :
  Calls Tryz.prog 3 #[.slice A0 l0.length c0] w fun e w' => e = .returned (.bool r) ∧ Below w.heap.size w w' := by
 have HR0 := Aside0.mk hr0; have HC0 := Aside0.mk hc0; clear hr0 hc0
 have HB := Aside0.mk (Below.refl w.heap.size w)
 have H : ((laws_rBig.f l0).bind fun t432 => (if t432 = true then (some true) else ((spec_DrawSmallestTeam.f k l0).bind fun bt433 => ((impl_SmallestTeam.f k bt433.1 bt433.2).bind fun bt437 => ((spec_SmallestTeam.f k bt433.1 bt433.2).bind fun bt441 => (if (bt437.2 != bt441.2) = true then (laws_FnTeams.j0 k l0 bt433.1 bt433.2 bt437.1 bt437.2 true) else ((laws_rInts.f k bt437.1 bt441.1).bind fun t445 => (laws_FnTeams.j0 k l0 bt433.1 bt433.2 bt437.1 bt437.2 (!t445))))))))) = some r := h
 clear h; replace H := Option.bind_eq_some_iff.mp H; obtain ⟨t432, A20, H⟩ := H
 replace H : (if t432 = true then (some true) else ((spec_DrawSmallestTeam.f k l0).bind fun bt433 => ((impl_SmallestTeam.f k bt433.1 bt433.2).bind fun bt437 => ((spec_SmallestTeam.f k bt433.1 bt433.2).bind fun bt441 => (if (bt437.2 != bt441.2) = true then (laws_FnTeams.j0 k l0 bt433.1 bt433.2 bt437.1 bt437.2 true) else ((laws_rInts.f k bt437.1 bt441.1).bind fun t445 => (laws_FnTeams.j0 k l0 bt433.1 bt433.2 bt437.1 bt437.2 (!t445)))))))) = some r := H
 have A2 := Aside0.mk A20; clear A20
 by_cases c3 : t432 = true
 ·subst c3
  have H1 : (some true) = some r := by rw [if_pos rfl] at H; exact H
  clear H; have H := H1; clear H1
  obtain rfl := Option.some.inj H
  go_enter Tryz.func3, Tryz.ntmps3
  go_wp2_with (first | ((with_reducible refine gate_callee (f := 5) rfl ?_); refine goesL_ (some 34) rfl rfl Tryz.func5 (by kernel_rfl) rfl #[.slice A0 l0.length c0] rfl gl_ ?_; (with_reducible refine (laws_rBig.calls _ _ l0 true _ ?side1 ?side2 A2.out).mono ?_); (case side1 => exact z11_); (case side2 => exact HC0.out); rintro e w' ⟨rfl, ⟨nd, rfl⟩⟩; refine ⟨_, rfl, ?_⟩))
  go_ret
  exact ⟨z6_, z5_⟩
 ·replace c3 := Bool.eq_false_iff.mpr c3
  subst c3
  have H1 : ((spec_DrawSmallestTeam.f k l0).bind fun bt433 => ((impl_SmallestTeam.f k bt433.1 bt433.2).bind fun bt437 => ((spec_SmallestTeam.f k bt433.1 bt433.2).bind fun bt441 => (if (bt437.2 != bt441.2) = true then (laws_FnTeams.j0 k l0 bt433.1 bt433.2 bt437.1 bt437.2 true) else ((laws_rInts.f k bt437.1 bt441.1).bind fun t445 => (laws_FnTeams.j0 k l0 bt433.1 bt433.2 bt437.1 bt437.2 (!t445))))))) = some r := by rw [if_neg (show ¬ (false = true) by decide)] at H; exact H
  clear H; have H := H1; clear H1; replace H := Option.bind_eq_some_iff.mp H; obtain ⟨⟨t433, t434⟩, A40, H⟩ := H
  replace H : ((impl_SmallestTeam.f k t433 t434).bind fun bt437 => ((spec_SmallestTeam.f k t433 t434).bind fun bt441 => (if (bt437.2 != bt441.2) = true then (laws_FnTeams.j0 k l0 t433 t434 bt437.1 bt437.2 true) else ((laws_rInts.f k bt437.1 bt441.1).bind fun t445 => (laws_FnTeams.j0 k l0 t433 t434 bt437.1 bt437.2 (!t445)))))) = some r := H
  have A4 := Aside0.mk A40; clear A40; replace H := Option.bind_eq_some_iff.mp H; obtain ⟨⟨t437, t438⟩, A50, H⟩ := H
  replace H : ((spec_SmallestTeam.f k t433 t434).bind fun bt441 => (if (t438 != bt441.2) = true then (laws_FnTeams.j0 k l0 t433 t434 t437 t438 true) else ((laws_rInts.f k t437 bt441.1).bind fun t445 => (laws_FnTeams.j0 k l0 t433 t434 t437 t438 (!t445))))) = some r := H
  have A5 := Aside0.mk A50; clear A50; replace H := Option.bind_eq_some_iff.mp H; obtain ⟨⟨t441, t442⟩, A60, H⟩ := H
  replace H : (if (t438 != t442) = true then (laws_FnTeams.j0 k l0 t433 t434 t437 t438 true) else ((laws_rInts.f k t437 t441).bind fun t445 => (laws_FnTeams.j0 k l0 t433 t434 t437 t438 (!t445)))) = some r := H
  have A6 := Aside0.mk A60; clear A60; have HC7 := Aside0.mk H; clear H
  go_enter Tryz.func3, Tryz.ntmps3
  go_upto_region 6 with (first | ((with_reducible refine gate_callee (f := 5) rfl ?_); refine goesL_ (some 34) rfl rfl Tryz.func5 (by kernel_rfl) rfl #[.slice A0 l0.length c0] rfl gl_ ?_; (with_reducible refine (laws_rBig.calls _ _ l0 false _ ?side1 ?side2 A2.out).mono ?_); (case side1 => exact z11_); (case side2 => exact HC0.out); rintro e w' ⟨rfl, ⟨nd, rfl⟩⟩; refine ⟨_, rfl, ?_⟩) | ((with_reducible refine gate_callee (f := 6) rfl ?_); refine goesL_ (some 37) rfl rfl Tryz.func6 (by kernel_rfl) rfl #[.slice A0 l0.length c0] rfl gl_ ?_; (with_reducible refine (spec_DrawSmallestTeam.calls k _ _ l0 t433 t434 _ ?side1 ?side2 A4.out).mono ?_); (case side1 => exact z11_); (case side2 => exact HC0.out); rintro e w8 ⟨v435, rfl, ho0, hb⟩; refine ⟨_, rfl, ?_⟩; have n0_ := Aside0.mk (Kd.R_lower ho0 (below_size bx_)); have n1_ := Aside0.mk (below_step bx_ hb); clear HB; have HO436 := n0_; have HB := n1_; clear n0_ n1_; (try clear hb); (try clear hk); (try clear ho0); obtain ⟨Ao9, co9, eo9⟩ := Kd.R_slice HO436.out; subst eo9) | ((with_reducible refine gate_callee (f := 7) rfl ?_); refine goesL_ (some 43) rfl rfl Tryz.func7 (by kernel_rfl) rfl #[.slice Ao9 t433.length co9, .int .i64 t434] rfl gl_ ?_; (with_reducible refine (impl_SmallestTeam.calls k _ _ t433 t434 t437 t438 _ ?side1 ?side2 A5.out).mono ?_); (case side1 => repeat (first | exact (Kd.R_reads' HO436.out).2.2 | (with_reducible refine Kd.C_alloc ?_ _) | (with_reducible refine Kd.C_drewN ?_ _) | (with_reducible refine Kd.C_drew ?_))); (case side2 => exact (Kd.R_reads' HO436.out).2.1); rintro e w10 ⟨v439, rfl, ho0, hb⟩; refine ⟨_, rfl, ?_⟩; have n0_ := Aside0.mk (Kd.R_below (kr_ HO436) hb); have n1_ := Aside0.mk (Kd.R_lower ho0 (below_size bx_)); have n2_ := Aside0.mk (below_step bx_ hb); clear HO436; clear HB; have HO436 := n0_; have HO440 := n1_; have HB := n2_; clear n0_ n1_ n2_; (try clear hb); (try clear hk); (try clear ho0)) | ((with_reducible refine gate_callee (f := 8) rfl ?_); refine goesL_ (some 49) rfl rfl Tryz.func8 (by kernel_rfl) rfl #[.slice Ao9 t433.length co9, .int .i64 t434] rfl gl_ ?_; (with_reducible refine (spec_SmallestTeam.calls k _ _ t433 t434 t441 t442 _ ?side1 ?side2 A6.out).mono ?_); (case side1 => repeat (first | exact (Kd.R_reads' HO436.out).2.2 | (with_reducible refine Kd.C_alloc ?_ _) | (with_reducible refine Kd.C_drewN ?_ _) | (with_reducible refine Kd.C_drew ?_))); (case side2 => exact (Kd.R_reads' HO436.out).2.1); rintro e w11 ⟨v443, rfl, ho0, hb⟩; refine ⟨_, rfl, ?_⟩; have n0_ := Aside0.mk (Kd.R_below (kr_ HO436) hb); have n1_ := Aside0.mk (Kd.R_elder' (kr_ HO440) (Kd.R_base ho0) hb); have n2_ := Aside0.mk (Kd.R_lower (Kd.R_new' ho0 (Kd.R_lt (kr_ HO440))) (below_size bx_)); have n3_ := Aside0.mk (below_step bx_ hb); clear HO436; clear HO440; clear HB; have HO436 := n0_; have HO440 := n1_; have HO444 := n2_; have HB := n3_; clear n0_ n1_ n2_ n3_; (try clear hb); (try clear hk); (try clear ho0)))
  (try simp only [Act.put, zA, zB, zC])
  go_cut [60] (fun v60 wc => ∃ (kq : Nat) (x60_6 : Bool), v60 = .bool x60_6 ∧ Aside0 (laws_FnTeams.j0 kq l0 t433 t434 t437 t438 x60_6 = some r) ∧ Aside0 (kq ≤ k) ∧ Aside0 (Kd.R k41 41 wc w.heap.size (fun _ => True) (.slice Ao9 t433.length co9) t433) ∧ Aside0 (Kd.R (Kd.int .i64) 3 wc w.heap.size (fun _ => True) v439 t437) ∧ Aside0 (Below w.heap.size w wc))
  case first => as_aux_lemma =>
   have H := HC7.out; clear HC7
   by_cases c12 : (t438 != t442) = true
   ·rw [if_pos c12] at H
    have c12b0 : (t438 != t442) = true := c12
    (try (have c12b1 : decide (t438 = t442) = false := by simpa using c12))
    (try (have c12b2 : (t438 == t442) = false := by simpa using c12))
    (try (have c12b3 : ¬ (t438 = t442) := by simpa using c12))
    clear c12
    (first | rw [c12b0] | (simp only [i64_w, i32_w]; rw [c12b0]) | skip)
    have H' := Aside0.mk H
    clear H
    go_wp2
    go_meet
    case rel => exact ⟨_, (true), z2_, H', ⟨by first | omega | exact Nat.le_refl _⟩, ⟨by (with_reducible repeat (first | apply Kd.R_alloc | apply Kd.R_drewN | apply Kd.R_drew)); exact HO436.out⟩, ⟨by (with_reducible repeat (first | apply Kd.R_alloc | apply Kd.R_drewN | apply Kd.R_drew)); exact Kd.R_mono HO440.out (fun _ hk => trivial)⟩, ⟨z5_⟩⟩
   ·rw [if_neg c12] at H
    have c12b0 : (t438 != t442) = false := by simpa using c12
    (try (have c12b1 : decide (t438 = t442) = true := by simpa using c12))
    (try (have c12b2 : (t438 == t442) = true := by simpa using c12))
    clear c12
    (first | rw [c12b0] | (simp only [i64_w, i32_w]; rw [c12b0]) | skip)
    replace H := Option.bind_eq_some_iff.mp H; obtain ⟨t445, A130, H⟩ := H
    replace H : (laws_FnTeams.j0 k l0 t433 t434 t437 t438 (!t445)) = some r := H
    have A13 := Aside0.mk A130; clear A130
    have H' := Aside0.mk H
    clear H
    obtain ⟨Ao14, co14, eo14⟩ := Kd.R_slice HO440.out
    subst eo14
    obtain ⟨Ao15, co15, eo15⟩ := Kd.R_slice HO444.out
    subst eo15
    go_wp2_with (first | (go_at_call 9; (with_reducible refine (laws_rInts.calls k _ _ t437 _ _ t441 t445 _ ?side1 ?side2 ?side3 ?side4 A13.out).mono ?_); (case side1 => repeat (first | exact (Kd.R_reads' HO440.out).2.2 | (with_reducible refine Kd.C_alloc ?_ _) | (with_reducible refine Kd.C_drewN ?_ _) | (with_reducible refine Kd.C_drew ?_))); (case side2 => exact (Kd.R_reads' HO440.out).2.1); (case side3 => repeat (first | exact (Kd.R_reads' HO444.out).2.2 | (with_reducible refine Kd.C_alloc ?_ _) | (with_reducible refine Kd.C_drewN ?_ _) | (with_reducible refine Kd.C_drew ?_))); (case side4 => exact (Kd.R_reads' HO444.out).2.1); rintro e w' ⟨rfl, ⟨nd, rfl⟩⟩))
    go_meet
    case rel => exact ⟨_, (!t445), z2_, H', ⟨by first | omega | exact Nat.le_refl _⟩, ⟨by (with_reducible repeat (first | apply Kd.R_alloc | apply Kd.R_drewN | apply Kd.R_drew)); exact HO436.out⟩, ⟨by (with_reducible repeat (first | apply Kd.R_alloc | apply Kd.R_drewN | apply Kd.R_drew)); exact Kd.R_mono HO440.out (fun _ hk => trivial)⟩, ⟨z5_⟩⟩
  case rest => as_aux_lemma =>
   clear HC7; (try clear c3); (try clear c12); (try clear c12b0); (try clear c12b1); (try clear c12b2); obtain ⟨kq, x60_6, rfl, HA, HJ6, HO_3, HO_5, HB⟩ := hcut
   cases kq with
   | zero => exact absurd HA.out (by simp [laws_FnTeams.j0])
   | succ kj6 =>
    have H := HA.out; clear HA
    simp only [laws_FnTeams.j0] at H
    by_cases c16 : x60_6 = true
    ·subst c16
     have H1 : (none) = some r := by rw [if_pos rfl] at H; exact H
     clear H; have H := H1; clear H1
     exact absurd H (by simp)
    ·replace c16 := Bool.eq_false_iff.mpr c16
     subst c16
     have H1 : (if t438 = true then ((impl_IsTeam.f kj6 t433 t437).bind fun bt446 => ((impl_MissingSkills.f kj6 t433 t437 t434).bind fun bt448 => (if bt446.2 = true then (if bt446.1 = true then (if bt448.2 = true then (if bt448.1 = 0 then (laws_FnTeams.j1 kj6 l0) else (none)) else (none)) else (none)) else (none)))) else (laws_FnTeams.j1 kj6 l0)) = some r := by rw [if_neg (show ¬ (false = true) by decide)] at H; exact H
     clear H; have H := H1; clear H1; have HC17 := Aside0.mk H; clear H
     go_upto_if 61 with (fail)
     go_cut [] (fun wc => ∃ (kq : Nat), Aside0 (laws_FnTeams.j1 kq l0 = some r) ∧ Aside0 (kq ≤ kj6) ∧ Aside0 (Below w.heap.size w wc))
     case first => as_aux_lemma =>
      have H := HC17.out; clear HC17
      by_cases c18 : t438 = true
      ·subst c18
       have H1 : ((impl_IsTeam.f kj6 t433 t437).bind fun bt446 => ((impl_MissingSkills.f kj6 t433 t437 t434).bind fun bt448 => (if bt446.2 = true then (if bt446.1 = true then (if bt448.2 = true then (if bt448.1 = 0 then (laws_FnTeams.j1 kj6 l0) else (none)) else (none)) else (none)) else (none)))) = some r := by rw [if_pos rfl] at H; exact H
       clear H; have H := H1; clear H1; replace H := Option.bind_eq_some_iff.mp H; obtain ⟨⟨t446, t447⟩, A190, H⟩ := H
       replace H : ((impl_MissingSkills.f kj6 t433 t437 t434).bind fun bt448 => (if t447 = true then (if t446 = true then (if bt448.2 = true then (if bt448.1 = 0 then (laws_FnTeams.j1 kj6 l0) else (none)) else (none)) else (none)) else (none))) = some r := H
       have A19 := Aside0.mk A190; clear A190; replace H := Option.bind_eq_some_iff.mp H; obtain ⟨⟨t448, t449⟩, A200, H⟩ := H
       replace H : (if t447 = true then (if t446 = true then (if t449 = true then (if t448 = 0 then (laws_FnTeams.j1 kj6 l0) else (none)) else (none)) else (none)) else (none)) = some r := H
       have A20 := Aside0.mk A200; clear A200
       by_cases c21 : t447 = true
       ·subst c21
        have H1 : (if t446 = true then (if t449 = true then (if t448 = 0 then (laws_FnTeams.j1 kj6 l0) else (none)) else (none)) else (none)) = some r := by rw [if_pos rfl] at H; exact H
        clear H; have H := H1; clear H1
        by_cases c22 : t446 = true
        ·subst c22
         have H1 : (if t449 = true then (if t448 = 0 then (laws_FnTeams.j1 kj6 l0) else (none)) else (none)) = some r := by rw [if_pos rfl] at H; exact H
         clear H; have H := H1; clear H1
         by_cases c23 : t449 = true
         ·subst c23
          have H1 : (if t448 = 0 then (laws_FnTeams.j1 kj6 l0) else (none)) = some r := by rw [if_pos rfl] at H; exact H
          clear H; have H := H1; clear H1
          by_cases c24 : t448 = 0
          ·rw [if_pos c24] at H
           have c24b0 : (t448 == 0) = true := beq_iff_eq.mpr c24
           have c24b1 : (t448 != 0) = false := bne_eq_false_iff_eq.mpr c24
           clear c24
           (first | rw [c24b0] | (simp only [i64_w, i32_w]; rw [c24b0]) | skip)
           have H' := Aside0.mk H
           clear H
           obtain ⟨Ao25, co25, eo25⟩ := Kd.R_slice HO_5.out
           subst eo25
           go_wp2_with (first | ((with_reducible refine gate_callee (f := 10) rfl ?_); refine goesL_ (some 65) rfl rfl Tryz.func10 (by kernel_rfl) rfl #[.slice Ao9 t433.length co9, .slice Ao25 t437.length co25] rfl gl_ ?_; (with_reducible refine (impl_IsTeam.calls kj6 _ _ t433 _ _ t437 true true _ ?side1 ?side2 ?side3 ?side4 A19.out).mono ?_); (case side1 => repeat (first | exact (Kd.R_reads' HO_3.out).2.2 | (with_reducible refine Kd.C_alloc ?_ _) | (with_reducible refine Kd.C_drewN ?_ _) | (with_reducible refine Kd.C_drew ?_))); (case side2 => exact (Kd.R_reads' HO_3.out).2.1); (case side3 => exact z50_); (case side4 => exact (Kd.R_reads' HO_5.out).2.1); rintro e w26 ⟨rfl, hb⟩; refine ⟨_, rfl, ?_⟩; have n0_ := Aside0.mk (Kd.R_below (kr_ HO_3) hb); have n1_ := Aside0.mk (Kd.R_below (kr_ HO_5) hb); have n2_ := Aside0.mk (below_step bx_ hb); clear HO_3; clear HO_5; clear HB; have HO_3 := n0_; have HO_5 := n1_; have HB := n2_; clear n0_ n1_ n2_; (try clear hb); (try clear hk)) | ((with_reducible refine gate_callee (f := 11) rfl ?_); refine goesL_ (some 72) rfl rfl Tryz.func11 (by kernel_rfl) rfl #[.slice Ao9 t433.length co9, .slice Ao25 t437.length co25, .int .i64 t434] rfl gl_ ?_; (with_reducible refine (impl_MissingSkills.calls kj6 _ _ t433 _ _ t437 t434 t448 true _ ?side1 ?side2 ?side3 ?side4 A20.out).mono ?_); (case side1 => repeat (first | exact (Kd.R_reads' HO_3.out).2.2 | (with_reducible refine Kd.C_alloc ?_ _) | (with_reducible refine Kd.C_drewN ?_ _) | (with_reducible refine Kd.C_drew ?_))); (case side2 => exact (Kd.R_reads' HO_3.out).2.1); (case side3 => exact z50_); (case side4 => exact (Kd.R_reads' HO_5.out).2.1); rintro e w27 ⟨rfl, hb⟩; refine ⟨_, rfl, ?_⟩; have n0_ := Aside0.mk (Kd.R_below (kr_ HO_3) hb); have n1_ := Aside0.mk (Kd.R_below (kr_ HO_5) hb); have n2_ := Aside0.mk (below_step bx_ hb); clear HO_3; clear HO_5; clear HB; have HO_3 := n0_; have HO_5 := n1_; have HB := n2_; clear n0_ n1_ n2_; (try clear hb); (try clear hk)))
           go_meet
           case rel => exact ⟨_, H', ⟨by have := HJ6.out; first | omega | exact Nat.le_refl _⟩, ⟨z5_⟩⟩
          ·rw [if_neg c24] at H
           exact absurd H (by simp)
         ·replace c23 := Bool.eq_false_iff.mpr c23
          subst c23
          have H1 : (none) = some r := by rw [if_neg (show ¬ (false = true) by decide)] at H; exact H
          clear H; have H := H1; clear H1
          exact absurd H (by simp)
        ·replace c22 := Bool.eq_false_iff.mpr c22
         subst c22
         have H1 : (none) = some r := by rw [if_neg (show ¬ (false = true) by decide)] at H; exact H
         clear H; have H := H1; clear H1
         exact absurd H (by simp)
       ·replace c21 := Bool.eq_false_iff.mpr c21
        subst c21
        have H1 : (none) = some r := by rw [if_neg (show ¬ (false = true) by decide)] at H; exact H
        clear H; have H := H1; clear H1
        exact absurd H (by simp)
      ·replace c18 := Bool.eq_false_iff.mpr c18
       subst c18
       have H1 : (laws_FnTeams.j1 kj6 l0) = some r := by rw [if_neg (show ¬ (false = true) by decide)] at H; exact H
       clear H; have H := H1; clear H1
       have H' := Aside0.mk H
       clear H
       go_wp2
       go_meet
       case rel => exact ⟨_, H', ⟨by have := HJ6.out; first | omega | exact Nat.le_refl _⟩, ⟨z5_⟩⟩
     case rest => as_aux_lemma =>
      clear HC17; (try clear c3); (try clear c12); (try clear c12b0); (try clear c12b1); (try clear c12b2); (try clear c16); (try clear c18); (try clear c21); (try clear c22); (try clear c23); (try clear c24); (try clear c24b0); (try clear c24b1); obtain ⟨kq, HA, HJ16, HB⟩ := hcut
      cases kq with
      | zero => exact absurd HA.out (by simp [laws_FnTeams.j1])
      | succ kj16 =>
       have H := HA.out; clear HA
       simp only [laws_FnTeams.j1] at H
       replace H := Option.bind_eq_some_iff.mp H; obtain ⟨⟨t450, t451⟩, A280, H⟩ := H
       replace H : ((impl_GoOnTrip.f kj16 t450 t451).bind fun bt456 => ((spec_GoOnTrip.f kj16 t450 t451).bind fun bt460 => (if (bt456.2 != bt460.2) = true then (laws_FnTeams.j2 kj16 l0 t450 t451 bt456.1 bt456.2 true) else ((laws_rPeople.f kj16 bt456.1 bt460.1).bind fun t464 => (laws_FnTeams.j2 kj16 l0 t450 t451 bt456.1 bt456.2 (!t464)))))) = some r := H
       have A28 := Aside0.mk A280; clear A280; replace H := Option.bind_eq_some_iff.mp H; obtain ⟨⟨t456, t457⟩, A290, H⟩ := H
       replace H : ((spec_GoOnTrip.f kj16 t450 t451).bind fun bt460 => (if (t457 != bt460.2) = true then (laws_FnTeams.j2 kj16 l0 t450 t451 t456 t457 true) else ((laws_rPeople.f kj16 t456 bt460.1).bind fun t464 => (laws_FnTeams.j2 kj16 l0 t450 t451 t456 t457 (!t464))))) = some r := H
       have A29 := Aside0.mk A290; clear A290; replace H := Option.bind_eq_some_iff.mp H; obtain ⟨⟨t460, t461⟩, A300, H⟩ := H
       replace H : (if (t457 != t461) = true then (laws_FnTeams.j2 kj16 l0 t450 t451 t456 t457 true) else ((laws_rPeople.f kj16 t456 t460).bind fun t464 => (laws_FnTeams.j2 kj16 l0 t450 t451 t456 t457 (!t464)))) = some r := H
       have A30 := Aside0.mk A300; clear A300; have HC31 := Aside0.mk H; clear H
       go_upto_region 16 with (first | ((with_reducible refine gate_callee (f := 12) rfl ?_); refine goesL_ (some 91) rfl rfl Tryz.func12 (by kernel_rfl) rfl #[.slice A0 l0.length c0] rfl gl_ ?_; (with_reducible refine (spec_DrawGoOnTrip.calls kj16 _ _ l0 t450 t451 _ ?side1 ?side2 A28.out).mono ?_); (case side1 => exact z14_); (case side2 => exact HC0.out); rintro e w32 ⟨v452, v454, rfl, ho0, ho1, hb⟩; refine ⟨_, rfl, ?_⟩; have n0_ := Aside0.mk (Kd.R_lower ho0 (below_size bx_)); have n1_ := Aside0.mk (Kd.R_lower ho1 (below_size bx_)); have n2_ := Aside0.mk (below_step bx_ hb); clear HB; have HO453 := n0_; have HO455 := n1_; have HB := n2_; clear n0_ n1_ n2_; (try clear hb); (try clear hk); (try clear ho0); (try clear ho1); obtain ⟨Ao33, co33, eo33⟩ := Kd.R_slice HO453.out; subst eo33; obtain ⟨Ao34, co34, eo34⟩ := Kd.R_slice HO455.out; subst eo34) | ((with_reducible refine gate_callee (f := 13) rfl ?_); refine goesL_ (some 97) rfl rfl Tryz.func13 (by kernel_rfl) rfl #[.slice Ao33 t450.length co33, .slice Ao34 t451.length co34] rfl gl_ ?_; (with_reducible refine (impl_GoOnTrip.calls kj16 _ _ t450 _ _ t451 t456 t457 _ ?side1 ?side2 ?side3 ?side4 A29.out).mono ?_); (case side1 => repeat (first | exact (Kd.R_reads' HO453.out).2.2 | (with_reducible refine Kd.C_alloc ?_ _) | (with_reducible refine Kd.C_drewN ?_ _) | (with_reducible refine Kd.C_drew ?_))); (case side2 => exact (Kd.R_reads' HO453.out).2.1); (case side3 => repeat (first | exact (Kd.R_reads' HO455.out).2.2 | (with_reducible refine Kd.C_alloc ?_ _) | (with_reducible refine Kd.C_drewN ?_ _) | (with_reducible refine Kd.C_drew ?_))); (case side4 => exact (Kd.R_reads' HO455.out).2.1); rintro e w35 ⟨v458, rfl, ho0, hb⟩; refine ⟨_, rfl, ?_⟩; have n0_ := Aside0.mk (Kd.R_elder' (kr_ HO453) (Kd.R_base ho0) hb); have n1_ := Aside0.mk (Kd.R_below (kr_ HO455) hb); have n2_ := Aside0.mk (Kd.R_lower (Kd.R_new' ho0 (Kd.R_lt (kr_ HO453))) (below_size bx_)); have n3_ := Aside0.mk (below_step bx_ hb); clear HO453; clear HO455; clear HB; have HO453 := n0_; have HO455 := n1_; have HO459 := n2_; have HB := n3_; clear n0_ n1_ n2_ n3_; (try clear hb); (try clear hk); (try clear ho0)) | ((with_reducible refine gate_callee (f := 14) rfl ?_); refine goesL_ (some 103) rfl rfl Tryz.func14 (by kernel_rfl) rfl #[.slice Ao33 t450.length co33, .slice Ao34 t451.length co34] rfl gl_ ?_; (with_reducible refine (spec_GoOnTrip.calls kj16 _ _ t450 _ _ t451 t460 t461 _ ?side1 ?side2 ?side3 ?side4 A30.out).mono ?_); (case side1 => repeat (first | exact (Kd.R_reads' HO453.out).2.2 | (with_reducible refine Kd.C_alloc ?_ _) | (with_reducible refine Kd.C_drewN ?_ _) | (with_reducible refine Kd.C_drew ?_))); (case side2 => exact (Kd.R_reads' HO453.out).2.1); (case side3 => repeat (first | exact (Kd.R_reads' HO455.out).2.2 | (with_reducible refine Kd.C_alloc ?_ _) | (with_reducible refine Kd.C_drewN ?_ _) | (with_reducible refine Kd.C_drew ?_))); (case side4 => exact (Kd.R_reads' HO455.out).2.1); rintro e w36 ⟨v462, rfl, ho0, hb⟩; refine ⟨_, rfl, ?_⟩; have n0_ := Aside0.mk (Kd.R_elder' (kr_ HO453) (Kd.R_base ho0) hb); have n1_ := Aside0.mk (Kd.R_below (kr_ HO455) hb); have n2_ := Aside0.mk (Kd.R_elder' (kr_ HO459) (Kd.R_base ho0) hb); have n3_ := Aside0.mk (Kd.R_lower (Kd.R_new' (Kd.R_new' ho0 (Kd.R_lt (kr_ HO453))) (Kd.R_lt (kr_ HO459))) (below_size bx_)); have n4_ := Aside0.mk (below_step bx_ hb); clear HO453; clear HO455; clear HO459; clear HB; have HO453 := n0_; have HO455 := n1_; have HO459 := n2_; have HO463 := n3_; have HB := n4_; clear n0_ n1_ n2_ n3_ n4_; (try clear hb); (try clear hk); (try clear ho0)))
       (try simp only [Act.put, zA, zB, zC])
       go_cut [114] (fun v114 wc => ∃ (kq : Nat) (x114_30 : Bool), v114 = .bool x114_30 ∧ Aside0 (laws_FnTeams.j2 kq l0 t450 t451 t456 t457 x114_30 = some r) ∧ Aside0 (kq ≤ kj16) ∧ Aside0 (Kd.R k41 41 wc w.heap.size (fun k_ => some k_ ≠ (v458 : Value).ownBlock) (.slice Ao33 t450.length co33) t450) ∧ Aside0 (Kd.R (Kd.int .i64) 3 wc w.heap.size (fun _ => True) (.slice Ao34 t451.length co34) t451) ∧ Aside0 (Kd.R k41 41 wc w.heap.size (fun k_ => some k_ ≠ ((.slice Ao33 t450.length co33) : Value).ownBlock) v458 t456) ∧ Aside0 (Below w.heap.size w wc))
       case first => as_aux_lemma =>
        have H := HC31.out; clear HC31
        by_cases c37 : (t457 != t461) = true
        ·rw [if_pos c37] at H
         have c37b0 : (t457 != t461) = true := c37
         (try (have c37b1 : decide (t457 = t461) = false := by simpa using c37))
         (try (have c37b2 : (t457 == t461) = false := by simpa using c37))
         (try (have c37b3 : ¬ (t457 = t461) := by simpa using c37))
         clear c37
         (first | rw [c37b0] | (simp only [i64_w, i32_w]; rw [c37b0]) | skip)
         have H' := Aside0.mk H
         clear H
         go_wp2
         go_meet
         case rel => exact ⟨_, (true), z2_, H', ⟨by have := HJ6.out; have := HJ16.out; first | omega | exact Nat.le_refl _⟩, ⟨by (with_reducible repeat (first | apply Kd.R_alloc | apply Kd.R_drewN | apply Kd.R_drew)); exact Kd.R_mono HO453.out (fun _ hk => hk.1.2)⟩, ⟨by (with_reducible repeat (first | apply Kd.R_alloc | apply Kd.R_drewN | apply Kd.R_drew)); exact HO455.out⟩, ⟨by (with_reducible repeat (first | apply Kd.R_alloc | apply Kd.R_drewN | apply Kd.R_drew)); exact Kd.R_mono HO459.out (fun _ hk => hk.1.2)⟩, ⟨z5_⟩⟩
        ·rw [if_neg c37] at H
         have c37b0 : (t457 != t461) = false := by simpa using c37
         (try (have c37b1 : decide (t457 = t461) = true := by simpa using c37))
         (try (have c37b2 : (t457 == t461) = true := by simpa using c37))
         clear c37
         (first | rw [c37b0] | (simp only [i64_w, i32_w]; rw [c37b0]) | skip)
         replace H := Option.bind_eq_some_iff.mp H; obtain ⟨t464, A380, H⟩ := H
         replace H : (laws_FnTeams.j2 kj16 l0 t450 t451 t456 t457 (!t464)) = some r := H
         have A38 := Aside0.mk A380; clear A380
         have H' := Aside0.mk H
         clear H
         obtain ⟨Ao39, co39, eo39⟩ := Kd.R_slice HO459.out
         subst eo39
         obtain ⟨Ao40, co40, eo40⟩ := Kd.R_slice HO463.out
         subst eo40
         go_wp2_with (first | (go_at_call 15; (with_reducible refine (laws_rPeople.calls kj16 _ _ t456 _ _ t460 t464 _ ?side1 ?side2 ?side3 ?side4 A38.out).mono ?_); (case side1 => repeat (first | exact (Kd.R_reads' HO459.out).2.2 | (with_reducible refine Kd.C_alloc ?_ _) | (with_reducible refine Kd.C_drewN ?_ _) | (with_reducible refine Kd.C_drew ?_))); (case side2 => exact (Kd.R_reads' HO459.out).2.1); (case side3 => repeat (first | exact (Kd.R_reads' HO463.out).2.2 | (with_reducible refine Kd.C_alloc ?_ _) | (with_reducible refine Kd.C_drewN ?_ _) | (with_reducible refine Kd.C_drew ?_))); (case side4 => exact (Kd.R_reads' HO463.out).2.1); rintro e w' ⟨rfl, ⟨nd, rfl⟩⟩))
         go_meet
         case rel => exact ⟨_, (!t464), z2_, H', ⟨by have := HJ6.out; have := HJ16.out; first | omega | exact Nat.le_refl _⟩, ⟨by (with_reducible repeat (first | apply Kd.R_alloc | apply Kd.R_drewN | apply Kd.R_drew)); exact Kd.R_mono HO453.out (fun _ hk => hk.1.2)⟩, ⟨by (with_reducible repeat (first | apply Kd.R_alloc | apply Kd.R_drewN | apply Kd.R_drew)); exact HO455.out⟩, ⟨by (with_reducible repeat (first | apply Kd.R_alloc | apply Kd.R_drewN | apply Kd.R_drew)); exact Kd.R_mono HO459.out (fun _ hk => hk.1.2)⟩, ⟨z5_⟩⟩
       case rest => as_aux_lemma =>
        clear HC31; (try clear c3); (try clear c12); (try clear c12b0); (try clear c12b1); (try clear c12b2); (try clear c16); (try clear c18); (try clear c21); (try clear c22); (try clear c23); (try clear c24); (try clear c24b0); (try clear c24b1); (try clear c37); (try clear c37b0); (try clear c37b1); (try clear c37b2); obtain ⟨kq, x114_30, rfl, HA, HJ30, HO_13, HO_14, HO_15, HB⟩ := hcut
        cases kq with
        | zero => exact absurd HA.out (by simp [laws_FnTeams.j2])
        | succ kj30 =>
         have H := HA.out; clear HA
         simp only [laws_FnTeams.j2] at H
         by_cases c41 : x114_30 = true
         ·subst c41
          have H1 : (none) = some r := by rw [if_pos rfl] at H; exact H
          clear H; have H := H1; clear H1
          exact absurd H (by simp)
         ·replace c41 := Bool.eq_false_iff.mpr c41
          subst c41
          have H1 : (laws_FnTeams.l0 kj30 l0 t450 t451 t456 t457 0) = some r := by rw [if_neg (show ¬ (false = true) by decide)] at H; exact H
          clear H; have H := H1; clear H1
          have H' := Aside0.mk H
          clear H
          go_wp2
          go_loopg [19] kj30 (fun kq v19 w' => ∃ (x19_4 : Int), v19 = .int .i64 x19_4 ∧ Aside0 (laws_FnTeams.l0 kq l0 t450 t451 t456 t457 x19_4 = some r) ∧ Aside0 (kq ≤ kj30) ∧ Aside0 (Kd.R k41 41 w' w.heap.size (fun k_ => some k_ ≠ (v458 : Value).ownBlock) (.slice Ao33 t450.length co33) t450) ∧ Aside0 (Kd.R (Kd.int .i64) 3 w' w.heap.size (fun _ => True) (.slice Ao34 t451.length co34) t451) ∧ Aside0 (Kd.R k41 41 w' w.heap.size (fun k_ => some k_ ≠ ((.slice Ao33 t450.length co33) : Value).ownBlock) v458 t456) ∧ Aside0 (Below w.heap.size w w'))
          case atStart => exact ⟨(0), z2_, H', ⟨Nat.le_refl _⟩, ⟨z30_⟩, ⟨z31_⟩, ⟨z32_⟩, ⟨z5_⟩⟩
          case round =>
           clear H'
           (try clear c3); (try clear c12); (try clear c12b0); (try clear c12b1); (try clear c12b2); (try clear c16); (try clear c18); (try clear c21); (try clear c22); (try clear c23); (try clear c24); (try clear c24b0); (try clear c24b1); (try clear c37); (try clear c37b0); (try clear c37b1); (try clear c37b2); (try clear c41); obtain ⟨x19_4, rfl, HA, HK4, HO_13, HO_14, HO_15, HB⟩ := hrel
           cases gk with
           | zero => exact absurd HA.out (by simp [laws_FnTeams.l0])
           | succ k4 =>
            have H := HA.out; clear HA
            simp only [laws_FnTeams.l0] at H
            by_cases c42 : x19_4 < (t456.length : Int)
            ·rw [if_pos c42] at H
             have c42b0 : decide (x19_4 < (t456.length : Int)) = true := decide_eq_true c42
             clear c42
             by_cases c43 : 0 ≤ x19_4
             ·rw [if_pos c43] at H
              have c43b0 : decide (0 ≤ x19_4) = true := decide_eq_true c43
              clear c43
              by_cases c44 : x19_4 < (t450.length : Int)
              ·rw [if_pos c44] at H
               have c44b0 : decide (x19_4 < (t450.length : Int)) = true := decide_eq_true c44
               clear c44
               by_cases c45 : (wrap64 (((rd_T41 t456 x19_4).f3) - ((rd_T41 t450 x19_4).f3))) = 1
               ·rw [if_pos c45] at H
                have c45b0 : ((wrap64 (((rd_T41 t456 x19_4).f3) - ((rd_T41 t450 x19_4).f3))) == 1) = true := beq_iff_eq.mpr c45
                have c45b1 : ((wrap64 (((rd_T41 t456 x19_4).f3) - ((rd_T41 t450 x19_4).f3))) != 1) = false := bne_eq_false_iff_eq.mpr c45
                clear c45
                by_cases c46 : ((rd_T41 t456 x19_4).f3) = ((rd_T41 t450 x19_4).f3)
                ·rw [if_pos c46] at H
                 have c46b0 : (((rd_T41 t456 x19_4).f3) == ((rd_T41 t450 x19_4).f3)) = true := beq_iff_eq.mpr c46
                 have c46b1 : (((rd_T41 t456 x19_4).f3) != ((rd_T41 t450 x19_4).f3)) = false := bne_eq_false_iff_eq.mpr c46
                 clear c46
                 have H' := Aside0.mk H
                 clear H
                 obtain ⟨Ao47, co47, eo47⟩ := Kd.R_slice HO_15.out
                 subst eo47
                 try go_wp2
                 have n0_ := Aside0.mk (Kd.R_drew HO_13.out)
                 have n1_ := Aside0.mk (Kd.R_drew HO_14.out)
                 have n2_ := Aside0.mk (Kd.R_drew HO_15.out)
                 have n3_ := Aside0.mk (below_drew1 HB.out)
                 clear HO_13; clear HO_14; clear HO_15; clear HB; have HO_13 := n0_; have HO_14 := n1_; have HO_15 := n2_; have HB := n3_; clear n0_ n1_ n2_ n3_
                 have p465 : 0 ≤ (x19_4 : Int) := od_
                 have q465 : x19_4 < (t456.length : Int) := od_
                 obtain ⟨ad465, e465, hx465_0, hx465_1, hx465_2, hx465_3⟩ := at_T41 (Kd.R_reads' HO_15.out).2.2 x19_4 p465 q465
                 cases e465
                 replace p465 := eq_true p465
                 replace q465 := eq_true q465
                 have p466 : 0 ≤ (x19_4 : Int) := od_
                 have q466 : x19_4 < (t450.length : Int) := od_
                 obtain ⟨ad466, e466, hx466_0, hx466_1, hx466_2, hx466_3⟩ := at_T41 (Kd.R_reads' HO_13.out).2.2 x19_4 p466 q466
                 cases e466
                 replace p466 := eq_true p466
                 replace q466 := eq_true q466
                 have p467 : 0 ≤ (x19_4 : Int) := od_
                 have q467 : x19_4 < (t456.length : Int) := od_
                 obtain ⟨ad467, e467, hx467_0, hx467_1, hx467_2, hx467_3⟩ := at_T41 (Kd.R_reads' HO_15.out).2.2 x19_4 p467 q467
                 obtain rfl : ad465 = ad467 := (by injection e467)
                 replace p467 := eq_true p467
                 replace q467 := eq_true q467
                 have p468 : 0 ≤ (x19_4 : Int) := od_
                 have q468 : x19_4 < (t450.length : Int) := od_
                 obtain ⟨ad468, e468, hx468_0, hx468_1, hx468_2, hx468_3⟩ := at_T41 (Kd.R_reads' HO_13.out).2.2 x19_4 p468 q468
                 obtain rfl : ad466 = ad468 := (by injection e468)
                 replace p468 := eq_true p468
                 replace q468 := eq_true q468
                 refine start_ (n := 44) (S := fun w' => w'.cell? (ad465.add ((x19_4).toNat * 4)) = some (.int .i64 ((rd_T41 t456 x19_4).f0)) ∧ w'.cell? ⟨(ad465.add ((x19_4).toNat * 4)).block, (ad465.add ((x19_4).toNat * 4)).off + 1, none⟩ = some (.string ((rd_T41 t456 x19_4).f1)) ∧ w'.cell? ⟨(ad465.add ((x19_4).toNat * 4)).block, (ad465.add ((x19_4).toNat * 4)).off + 2, none⟩ = some (.int .i64 ((rd_T41 t456 x19_4).f2)) ∧ w'.cell? ⟨(ad465.add ((x19_4).toNat * 4)).block, (ad465.add ((x19_4).toNat * 4)).off + 3, none⟩ = some (.int .i64 ((rd_T41 t456 x19_4).f3)) ∧ w'.cell? (ad466.add ((x19_4).toNat * 4)) = some (.int .i64 ((rd_T41 t450 x19_4).f0)) ∧ w'.cell? ⟨(ad466.add ((x19_4).toNat * 4)).block, (ad466.add ((x19_4).toNat * 4)).off + 1, none⟩ = some (.string ((rd_T41 t450 x19_4).f1)) ∧ w'.cell? ⟨(ad466.add ((x19_4).toNat * 4)).block, (ad466.add ((x19_4).toNat * 4)).off + 2, none⟩ = some (.int .i64 ((rd_T41 t450 x19_4).f2)) ∧ w'.cell? ⟨(ad466.add ((x19_4).toNat * 4)).block, (ad466.add ((x19_4).toNat * 4)).off + 3, none⟩ = some (.int .i64 ((rd_T41 t450 x19_4).f3)) ∧ w'.cell? (ad465.add ((x19_4).toNat * 4)) = some (.int .i64 ((rd_T41 t456 x19_4).f0)) ∧ w'.cell? ⟨(ad465.add ((x19_4).toNat * 4)).block, (ad465.add ((x19_4).toNat * 4)).off + 1, none⟩ = some (.string ((rd_T41 t456 x19_4).f1)) ∧ w'.cell? ⟨(ad465.add ((x19_4).toNat * 4)).block, (ad465.add ((x19_4).toNat * 4)).off + 2, none⟩ = some (.int .i64 ((rd_T41 t456 x19_4).f2)) ∧ w'.cell? ⟨(ad465.add ((x19_4).toNat * 4)).block, (ad465.add ((x19_4).toNat * 4)).off + 3, none⟩ = some (.int .i64 ((rd_T41 t456 x19_4).f3)) ∧ w'.cell? (ad466.add ((x19_4).toNat * 4)) = some (.int .i64 ((rd_T41 t450 x19_4).f0)) ∧ w'.cell? ⟨(ad466.add ((x19_4).toNat * 4)).block, (ad466.add ((x19_4).toNat * 4)).off + 1, none⟩ = some (.string ((rd_T41 t450 x19_4).f1)) ∧ w'.cell? ⟨(ad466.add ((x19_4).toNat * 4)).block, (ad466.add ((x19_4).toNat * 4)).off + 2, none⟩ = some (.int .i64 ((rd_T41 t450 x19_4).f2)) ∧ w'.cell? ⟨(ad466.add ((x19_4).toNat * 4)).block, (ad466.add ((x19_4).toNat * 4)).off + 3, none⟩ = some (.int .i64 ((rd_T41 t450 x19_4).f3))) (ds := []) #[F,F,F,F,F,F,F,F,F,F,F,F,F,F,F,F,F,F,F,F,F,F,F,F,F,F,F,F,F,F,F,F,F,F,F,F,F,F,F,F,F,F,F,F] (by kernel_rfl) rfl rfl ⟨hx465_0, hx465_1, hx465_2, hx465_3, hx466_0, hx466_1, hx466_2, hx466_3, hx467_0, hx467_1, hx467_2, hx467_3, hx468_0, hx468_1, hx468_2, hx468_3⟩ (fun hHeld => ?_); refine with_tabW laws_FnTeams.tab21 laws_FnTeams.bits21 (fun HT_ HW_ => ?_)
                 generalize wr.drew = w48 at HO_13 HO_14 HO_15 HB hx465_0 hx465_1 hx465_2 hx465_3 hx466_0 hx466_1 hx466_2 hx466_3 hx467_0 hx467_1 hx467_2 hx467_3 hx468_0 hx468_1 hx468_2 hx468_3 hHeld ⊢
                 refine pv_ 0 (some 121) #[T,F,F,F,F,F,F,F,F,F,F,F,F,F,F,F,F,F,F,F,F,F,F,F,F,F,F,F,F,F,F,F,F,F,F,F,F,F,F,F,F,F,F,F] HT_.out ?_
                 refine pv_ 1 (some 122) #[T,T,F,F,F,F,F,F,F,F,F,F,F,F,F,F,F,F,F,F,F,F,F,F,F,F,F,F,F,F,F,F,F,F,F,F,F,F,F,F,F,F,F,F] HT_.out ?_
                 refine pv_ 2 (some 123) #[T,T,T,F,F,F,F,F,F,F,F,F,F,F,F,F,F,F,F,F,F,F,F,F,F,F,F,F,F,F,F,F,F,F,F,F,F,F,F,F,F,F,F,F] HT_.out ?_
                 refine pv_ 3 (some 124) #[T,T,T,T,F,F,F,F,F,F,F,F,F,F,F,F,F,F,F,F,F,F,F,F,F,F,F,F,F,F,F,F,F,F,F,F,F,F,F,F,F,F,F,F] HT_.out ?_
                 refine pv_ 5 (some 126) #[T,T,T,T,F,T,F,F,F,F,F,F,F,F,F,F,F,F,F,F,F,F,F,F,F,F,F,F,F,F,F,F,F,F,F,F,F,F,F,F,F,F,F,F] HT_.out ?_
                 refine pv_ 6 (some 127) #[T,T,T,T,F,T,T,F,F,F,F,F,F,F,F,F,F,F,F,F,F,F,F,F,F,F,F,F,F,F,F,F,F,F,F,F,F,F,F,F,F,F,F,F] HT_.out ?_
                 refine pv_ 7 (some 128) #[T,T,T,T,F,T,T,T,F,F,F,F,F,F,F,F,F,F,F,F,F,F,F,F,F,F,F,F,F,F,F,F,F,F,F,F,F,F,F,F,F,F,F,F] HT_.out ?_
                 refine pv_ 8 (some 129) #[T,T,T,T,F,T,T,T,T,F,F,F,F,F,F,F,F,F,F,F,F,F,F,F,F,F,F,F,F,F,F,F,F,F,F,F,F,F,F,F,F,F,F,F] HT_.out ?_
                 refine tv16_ 4 (some 125) #[T,T,T,T,T,T,T,T,T,F,F,F,F,F,F,F,F,F,F,F,F,F,F,F,F,F,F,F,F,F,F,F,F,F,F,F,F,F,F,F,F,F,F,F] HT_.out HW_.out hHeld ?_
                 refine tv16_ 9 (some 130) #[T,T,T,T,T,T,T,T,T,T,F,F,F,F,F,F,F,F,F,F,F,F,F,F,F,F,F,F,F,F,F,F,F,F,F,F,F,F,F,F,F,F,F,F] HT_.out HW_.out hHeld ?_
                 refine pv_ 10 (some 131) #[T,T,T,T,T,T,T,T,T,T,T,F,F,F,F,F,F,F,F,F,F,F,F,F,F,F,F,F,F,F,F,F,F,F,F,F,F,F,F,F,F,F,F,F] HT_.out ?_
                 refine pv_ 11 (some 132) #[T,T,T,T,T,T,T,T,T,T,T,T,F,F,F,F,F,F,F,F,F,F,F,F,F,F,F,F,F,F,F,F,F,F,F,F,F,F,F,F,F,F,F,F] HT_.out ?_
                 refine pv_ 12 (some 133) #[T,T,T,T,T,T,T,T,T,T,T,T,T,F,F,F,F,F,F,F,F,F,F,F,F,F,F,F,F,F,F,F,F,F,F,F,F,F,F,F,F,F,F,F] HT_.out ?_
                 refine pu_ 13 (some 134) #[T,T,T,T,T,T,T,T,T,T,T,T,T,T,F,F,F,F,F,F,F,F,F,F,F,F,F,F,F,F,F,F,F,F,F,F,F,F,F,F,F,F,F,F] HT_.out ?_
                 refine pu_ 14 (some 135) #[T,T,T,T,T,T,T,T,T,T,T,T,T,T,T,F,F,F,F,F,F,F,F,F,F,F,F,F,F,F,F,F,F,F,F,F,F,F,F,F,F,F,F,F] HT_.out ?_
                 refine pu_ 15 (some 136) #[T,T,T,T,T,T,T,T,T,T,T,T,T,T,T,T,F,F,F,F,F,F,F,F,F,F,F,F,F,F,F,F,F,F,F,F,F,F,F,F,F,F,F,F] HT_.out ?_
                 refine pu_ 16 (some 137) #[T,T,T,T,T,T,T,T,T,T,T,T,T,T,T,T,T,F,F,F,F,F,F,F,F,F,F,F,F,F,F,F,F,F,F,F,F,F,F,F,F,F,F,F] HT_.out ?_
                 refine pu_ 17 (some 138) #[T,T,T,T,T,T,T,T,T,T,T,T,T,T,T,T,T,T,F,F,F,F,F,F,F,F,F,F,F,F,F,F,F,F,F,F,F,F,F,F,F,F,F,F] HT_.out ?_
                 refine pu_ 18 (some 139) #[T,T,T,T,T,T,T,T,T,T,T,T,T,T,T,T,T,T,T,F,F,F,F,F,F,F,F,F,F,F,F,F,F,F,F,F,F,F,F,F,F,F,F,F] HT_.out ?_
                 refine pu_ 19 (some 140) #[T,T,T,T,T,T,T,T,T,T,T,T,T,T,T,T,T,T,T,T,F,F,F,F,F,F,F,F,F,F,F,F,F,F,F,F,F,F,F,F,F,F,F,F] HT_.out ?_
                 refine pv_ 20 (some 141) #[T,T,T,T,T,T,T,T,T,T,T,T,T,T,T,T,T,T,T,T,T,F,F,F,F,F,F,F,F,F,F,F,F,F,F,F,F,F,F,F,F,F,F,F] HT_.out ?_
                 refine pv_ 21 (some 142) #[T,T,T,T,T,T,T,T,T,T,T,T,T,T,T,T,T,T,T,T,T,T,F,F,F,F,F,F,F,F,F,F,F,F,F,F,F,F,F,F,F,F,F,F] HT_.out ?_
                 refine pv_ 22 (some 143) #[T,T,T,T,T,T,T,T,T,T,T,T,T,T,T,T,T,T,T,T,T,T,T,F,F,F,F,F,F,F,F,F,F,F,F,F,F,F,F,F,F,F,F,F] HT_.out ?_
                 refine pv_ 23 (some 144) #[T,T,T,T,T,T,T,T,T,T,T,T,T,T,T,T,T,T,T,T,T,T,T,T,F,F,F,F,F,F,F,F,F,F,F,F,F,F,F,F,F,F,F,F] HT_.out ?_
                 refine pv_ 24 (some 145) #[T,T,T,T,T,T,T,T,T,T,T,T,T,T,T,T,T,T,T,T,T,T,T,T,T,F,F,F,F,F,F,F,F,F,F,F,F,F,F,F,F,F,F,F] HT_.out ?_
                 refine pv_ 25 (some 146) #[T,T,T,T,T,T,T,T,T,T,T,T,T,T,T,T,T,T,T,T,T,T,T,T,T,T,F,F,F,F,F,F,F,F,F,F,F,F,F,F,F,F,F,F] HT_.out ?_
                 refine pv_ 27 (some 148) #[T,T,T,T,T,T,T,T,T,T,T,T,T,T,T,T,T,T,T,T,T,T,T,T,T,T,F,T,F,F,F,F,F,F,F,F,F,F,F,F,F,F,F,F] HT_.out ?_
                 refine pv_ 28 (some 149) #[T,T,T,T,T,T,T,T,T,T,T,T,T,T,T,T,T,T,T,T,T,T,T,T,T,T,F,T,T,F,F,F,F,F,F,F,F,F,F,F,F,F,F,F] HT_.out ?_
                 refine pv_ 29 (some 150) #[T,T,T,T,T,T,T,T,T,T,T,T,T,T,T,T,T,T,T,T,T,T,T,T,T,T,F,T,T,T,F,F,F,F,F,F,F,F,F,F,F,F,F,F] HT_.out ?_
                 refine pv_ 30 (some 151) #[T,T,T,T,T,T,T,T,T,T,T,T,T,T,T,T,T,T,T,T,T,T,T,T,T,T,F,T,T,T,T,F,F,F,F,F,F,F,F,F,F,F,F,F] HT_.out ?_
                 refine tv16_ 26 (some 147) #[T,T,T,T,T,T,T,T,T,T,T,T,T,T,T,T,T,T,T,T,T,T,T,T,T,T,T,T,T,T,T,F,F,F,F,F,F,F,F,F,F,F,F,F] HT_.out HW_.out hHeld ?_
                 refine tv16_ 31 (some 152) #[T,T,T,T,T,T,T,T,T,T,T,T,T,T,T,T,T,T,T,T,T,T,T,T,T,T,T,T,T,T,T,T,F,F,F,F,F,F,F,F,F,F,F,F] HT_.out HW_.out hHeld ?_
                 refine pv_ 32 (some 153) #[T,T,T,T,T,T,T,T,T,T,T,T,T,T,T,T,T,T,T,T,T,T,T,T,T,T,T,T,T,T,T,T,T,F,F,F,F,F,F,F,F,F,F,F] HT_.out ?_
                 refine pv_ 33 (some 154) #[T,T,T,T,T,T,T,T,T,T,T,T,T,T,T,T,T,T,T,T,T,T,T,T,T,T,T,T,T,T,T,T,T,T,F,F,F,F,F,F,F,F,F,F] HT_.out ?_
                 refine pu_ 34 (some 155) #[T,T,T,T,T,T,T,T,T,T,T,T,T,T,T,T,T,T,T,T,T,T,T,T,T,T,T,T,T,T,T,T,T,T,T,F,F,F,F,F,F,F,F,F] HT_.out ?_
                 refine pu_ 35 (some 156) #[T,T,T,T,T,T,T,T,T,T,T,T,T,T,T,T,T,T,T,T,T,T,T,T,T,T,T,T,T,T,T,T,T,T,T,T,F,F,F,F,F,F,F,F] HT_.out ?_
                 refine pu_ 36 (some 157) #[T,T,T,T,T,T,T,T,T,T,T,T,T,T,T,T,T,T,T,T,T,T,T,T,T,T,T,T,T,T,T,T,T,T,T,T,T,F,F,F,F,F,F,F] HT_.out ?_
                 refine pu_ 37 (some 158) #[T,T,T,T,T,T,T,T,T,T,T,T,T,T,T,T,T,T,T,T,T,T,T,T,T,T,T,T,T,T,T,T,T,T,T,T,T,T,F,F,F,F,F,F] HT_.out ?_
                 refine pu_ 38 (some 159) #[T,T,T,T,T,T,T,T,T,T,T,T,T,T,T,T,T,T,T,T,T,T,T,T,T,T,T,T,T,T,T,T,T,T,T,T,T,T,T,F,F,F,F,F] HT_.out ?_
                 refine pu_ 39 (some 160) #[T,T,T,T,T,T,T,T,T,T,T,T,T,T,T,T,T,T,T,T,T,T,T,T,T,T,T,T,T,T,T,T,T,T,T,T,T,T,T,T,F,F,F,F] HT_.out ?_
                 refine pu_ 40 (some 161) #[T,T,T,T,T,T,T,T,T,T,T,T,T,T,T,T,T,T,T,T,T,T,T,T,T,T,T,T,T,T,T,T,T,T,T,T,T,T,T,T,T,F,F,F] HT_.out ?_
                 refine pu_ 41 (some 162) #[T,T,T,T,T,T,T,T,T,T,T,T,T,T,T,T,T,T,T,T,T,T,T,T,T,T,T,T,T,T,T,T,T,T,T,T,T,T,T,T,T,T,F,F] HT_.out ?_
                 refine pv_ 42 (some 163) #[T,T,T,T,T,T,T,T,T,T,T,T,T,T,T,T,T,T,T,T,T,T,T,T,T,T,T,T,T,T,T,T,T,T,T,T,T,T,T,T,T,T,T,F] HT_.out ?_
                 refine pv_ 43 (some 164) #[T,T,T,T,T,T,T,T,T,T,T,T,T,T,T,T,T,T,T,T,T,T,T,T,T,T,T,T,T,T,T,T,T,T,T,T,T,T,T,T,T,T,T,T] HT_.out ?_
                 refine done_ (done_of HT_.out (by kernel_rfl)) ?_
                 try go_wp2
                 go_roundg k4
                 case measure => have := HJ6.out; have := HJ16.out; have := HJ30.out; have := HK4.out; omega
                 case rel => exact ⟨(wrap64 (x19_4 + 1)), z2_, H', ⟨by have := HJ6.out; have := HJ16.out; have := HJ30.out; have := HK4.out; omega⟩, ⟨z30_⟩, ⟨z31_⟩, ⟨z32_⟩, ⟨z5_⟩⟩
                ·rw [if_neg c46] at H
                 have c46b0 : (((rd_T41 t456 x19_4).f3) == ((rd_T41 t450 x19_4).f3)) = false := beq_eq_false_iff_ne.mpr c46
                 have c46b1 : (((rd_T41 t456 x19_4).f3) != ((rd_T41 t450 x19_4).f3)) = true := bne_iff_ne.mpr c46
                 replace H := Option.bind_eq_some_iff.mp H; obtain ⟨t470, A490, H⟩ := H
                 replace H : (if t470 = true then (laws_FnTeams.l0 k4 l0 t450 t451 t456 t457 (wrap64 (x19_4 + 1))) else (none)) = some r := H
                 have A49 := Aside0.mk A490; clear A490
                 by_cases c50 : t470 = true
                 ·subst c50
                  have H1 : (laws_FnTeams.l0 k4 l0 t450 t451 t456 t457 (wrap64 (x19_4 + 1))) = some r := by rw [if_pos rfl] at H; exact H
                  clear H; have H := H1; clear H1
                  have H' := Aside0.mk H
                  clear H
                  obtain ⟨Ao51, co51, eo51⟩ := Kd.R_slice HO_15.out
                  subst eo51
                  try go_wp2
                  have n0_ := Aside0.mk (Kd.R_drew HO_13.out)
                  have n1_ := Aside0.mk (Kd.R_drew HO_14.out)
                  have n2_ := Aside0.mk (Kd.R_drew HO_15.out)
                  have n3_ := Aside0.mk (below_drew1 HB.out)
                  clear HO_13; clear HO_14; clear HO_15; clear HB; have HO_13 := n0_; have HO_14 := n1_; have HO_15 := n2_; have HB := n3_; clear n0_ n1_ n2_ n3_
                  have p465 : 0 ≤ (x19_4 : Int) := od_
                  have q465 : x19_4 < (t456.length : Int) := od_
                  obtain ⟨ad465, e465, hx465_0, hx465_1, hx465_2, hx465_3⟩ := at_T41 (Kd.R_reads' HO_15.out).2.2 x19_4 p465 q465
                  cases e465
                  replace p465 := eq_true p465
                  replace q465 := eq_true q465
                  have p466 : 0 ≤ (x19_4 : Int) := od_
                  have q466 : x19_4 < (t450.length : Int) := od_
                  obtain ⟨ad466, e466, hx466_0, hx466_1, hx466_2, hx466_3⟩ := at_T41 (Kd.R_reads' HO_13.out).2.2 x19_4 p466 q466
                  cases e466
                  replace p466 := eq_true p466
                  replace q466 := eq_true q466
                  have p467 : 0 ≤ (x19_4 : Int) := od_
                  have q467 : x19_4 < (t456.length : Int) := od_
                  obtain ⟨ad467, e467, hx467_0, hx467_1, hx467_2, hx467_3⟩ := at_T41 (Kd.R_reads' HO_15.out).2.2 x19_4 p467 q467
                  obtain rfl : ad465 = ad467 := (by injection e467)
                  replace p467 := eq_true p467
                  replace q467 := eq_true q467
                  have p468 : 0 ≤ (x19_4 : Int) := od_
                  have q468 : x19_4 < (t450.length : Int) := od_
                  obtain ⟨ad468, e468, hx468_0, hx468_1, hx468_2, hx468_3⟩ := at_T41 (Kd.R_reads' HO_13.out).2.2 x19_4 p468 q468
                  obtain rfl : ad466 = ad468 := (by injection e468)
                  replace p468 := eq_true p468
                  replace q468 := eq_true q468
                  have p469 : 0 ≤ (x19_4 : Int) := od_
                  have q469 : x19_4 < (t450.length : Int) := od_
                  obtain ⟨ad469, e469, hx469_0, hx469_1, hx469_2, hx469_3⟩ := at_T41 (Kd.R_reads' HO_13.out).2.2 x19_4 p469 q469
                  obtain rfl : ad466 = ad469 := (by injection e469)
                  replace p469 := eq_true p469
                  replace q469 := eq_true q469
                  refine start_ (n := 44) (S := fun w' => w'.cell? (ad465.add ((x19_4).toNat * 4)) = some (.int .i64 ((rd_T41 t456 x19_4).f0)) ∧ w'.cell? ⟨(ad465.add ((x19_4).toNat * 4)).block, (ad465.add ((x19_4).toNat * 4)).off + 1, none⟩ = some (.string ((rd_T41 t456 x19_4).f1)) ∧ w'.cell? ⟨(ad465.add ((x19_4).toNat * 4)).block, (ad465.add ((x19_4).toNat * 4)).off + 2, none⟩ = some (.int .i64 ((rd_T41 t456 x19_4).f2)) ∧ w'.cell? ⟨(ad465.add ((x19_4).toNat * 4)).block, (ad465.add ((x19_4).toNat * 4)).off + 3, none⟩ = some (.int .i64 ((rd_T41 t456 x19_4).f3)) ∧ w'.cell? (ad466.add ((x19_4).toNat * 4)) = some (.int .i64 ((rd_T41 t450 x19_4).f0)) ∧ w'.cell? ⟨(ad466.add ((x19_4).toNat * 4)).block, (ad466.add ((x19_4).toNat * 4)).off + 1, none⟩ = some (.string ((rd_T41 t450 x19_4).f1)) ∧ w'.cell? ⟨(ad466.add ((x19_4).toNat * 4)).block, (ad466.add ((x19_4).toNat * 4)).off + 2, none⟩ = some (.int .i64 ((rd_T41 t450 x19_4).f2)) ∧ w'.cell? ⟨(ad466.add ((x19_4).toNat * 4)).block, (ad466.add ((x19_4).toNat * 4)).off + 3, none⟩ = some (.int .i64 ((rd_T41 t450 x19_4).f3)) ∧ w'.cell? (ad465.add ((x19_4).toNat * 4)) = some (.int .i64 ((rd_T41 t456 x19_4).f0)) ∧ w'.cell? ⟨(ad465.add ((x19_4).toNat * 4)).block, (ad465.add ((x19_4).toNat * 4)).off + 1, none⟩ = some (.string ((rd_T41 t456 x19_4).f1)) ∧ w'.cell? ⟨(ad465.add ((x19_4).toNat * 4)).block, (ad465.add ((x19_4).toNat * 4)).off + 2, none⟩ = some (.int .i64 ((rd_T41 t456 x19_4).f2)) ∧ w'.cell? ⟨(ad465.add ((x19_4).toNat * 4)).block, (ad465.add ((x19_4).toNat * 4)).off + 3, none⟩ = some (.int .i64 ((rd_T41 t456 x19_4).f3)) ∧ w'.cell? (ad466.add ((x19_4).toNat * 4)) = some (.int .i64 ((rd_T41 t450 x19_4).f0)) ∧ w'.cell? ⟨(ad466.add ((x19_4).toNat * 4)).block, (ad466.add ((x19_4).toNat * 4)).off + 1, none⟩ = some (.string ((rd_T41 t450 x19_4).f1)) ∧ w'.cell? ⟨(ad466.add ((x19_4).toNat * 4)).block, (ad466.add ((x19_4).toNat * 4)).off + 2, none⟩ = some (.int .i64 ((rd_T41 t450 x19_4).f2)) ∧ w'.cell? ⟨(ad466.add ((x19_4).toNat * 4)).block, (ad466.add ((x19_4).toNat * 4)).off + 3, none⟩ = some (.int .i64 ((rd_T41 t450 x19_4).f3)) ∧ w'.cell? (ad466.add ((x19_4).toNat * 4)) = some (.int .i64 ((rd_T41 t450 x19_4).f0)) ∧ w'.cell? ⟨(ad466.add ((x19_4).toNat * 4)).block, (ad466.add ((x19_4).toNat * 4)).off + 1, none⟩ = some (.string ((rd_T41 t450 x19_4).f1)) ∧ w'.cell? ⟨(ad466.add ((x19_4).toNat * 4)).block, (ad466.add ((x19_4).toNat * 4)).off + 2, none⟩ = some (.int .i64 ((rd_T41 t450 x19_4).f2)) ∧ w'.cell? ⟨(ad466.add ((x19_4).toNat * 4)).block, (ad466.add ((x19_4).toNat * 4)).off + 3, none⟩ = some (.int .i64 ((rd_T41 t450 x19_4).f3))) (ds := []) #[F,F,F,F,F,F,F,F,F,F,F,F,F,F,F,F,F,F,F,F,F,F,F,F,F,F,F,F,F,F,F,F,F,F,F,F,F,F,F,F,F,F,F,F] (by kernel_rfl) rfl rfl ⟨hx465_0, hx465_1, hx465_2, hx465_3, hx466_0, hx466_1, hx466_2, hx466_3, hx467_0, hx467_1, hx467_2, hx467_3, hx468_0, hx468_1, hx468_2, hx468_3, hx469_0, hx469_1, hx469_2, hx469_3⟩ (fun hHeld => ?_); refine with_tabW laws_FnTeams.tab21 laws_FnTeams.bits21 (fun HT_ HW_ => ?_)
                  generalize wr.drew = w52 at HO_13 HO_14 HO_15 HB hx465_0 hx465_1 hx465_2 hx465_3 hx466_0 hx466_1 hx466_2 hx466_3 hx467_0 hx467_1 hx467_2 hx467_3 hx468_0 hx468_1 hx468_2 hx468_3 hx469_0 hx469_1 hx469_2 hx469_3 hHeld ⊢
                  refine pv_ 0 (some 121) #[T,F,F,F,F,F,F,F,F,F,F,F,F,F,F,F,F,F,F,F,F,F,F,F,F,F,F,F,F,F,F,F,F,F,F,F,F,F,F,F,F,F,F,F] HT_.out ?_
                  refine pv_ 1 (some 122) #[T,T,F,F,F,F,F,F,F,F,F,F,F,F,F,F,F,F,F,F,F,F,F,F,F,F,F,F,F,F,F,F,F,F,F,F,F,F,F,F,F,F,F,F] HT_.out ?_
                  refine pv_ 2 (some 123) #[T,T,T,F,F,F,F,F,F,F,F,F,F,F,F,F,F,F,F,F,F,F,F,F,F,F,F,F,F,F,F,F,F,F,F,F,F,F,F,F,F,F,F,F] HT_.out ?_
                  refine pv_ 3 (some 124) #[T,T,T,T,F,F,F,F,F,F,F,F,F,F,F,F,F,F,F,F,F,F,F,F,F,F,F,F,F,F,F,F,F,F,F,F,F,F,F,F,F,F,F,F] HT_.out ?_
                  refine pv_ 5 (some 126) #[T,T,T,T,F,T,F,F,F,F,F,F,F,F,F,F,F,F,F,F,F,F,F,F,F,F,F,F,F,F,F,F,F,F,F,F,F,F,F,F,F,F,F,F] HT_.out ?_
                  refine pv_ 6 (some 127) #[T,T,T,T,F,T,T,F,F,F,F,F,F,F,F,F,F,F,F,F,F,F,F,F,F,F,F,F,F,F,F,F,F,F,F,F,F,F,F,F,F,F,F,F] HT_.out ?_
                  refine pv_ 7 (some 128) #[T,T,T,T,F,T,T,T,F,F,F,F,F,F,F,F,F,F,F,F,F,F,F,F,F,F,F,F,F,F,F,F,F,F,F,F,F,F,F,F,F,F,F,F] HT_.out ?_
                  refine pv_ 8 (some 129) #[T,T,T,T,F,T,T,T,T,F,F,F,F,F,F,F,F,F,F,F,F,F,F,F,F,F,F,F,F,F,F,F,F,F,F,F,F,F,F,F,F,F,F,F] HT_.out ?_
                  refine tv20_ 4 (some 125) #[T,T,T,T,T,T,T,T,T,F,F,F,F,F,F,F,F,F,F,F,F,F,F,F,F,F,F,F,F,F,F,F,F,F,F,F,F,F,F,F,F,F,F,F] HT_.out HW_.out hHeld ?_
                  refine tv20_ 9 (some 130) #[T,T,T,T,T,T,T,T,T,T,F,F,F,F,F,F,F,F,F,F,F,F,F,F,F,F,F,F,F,F,F,F,F,F,F,F,F,F,F,F,F,F,F,F] HT_.out HW_.out hHeld ?_
                  refine pv_ 10 (some 131) #[T,T,T,T,T,T,T,T,T,T,T,F,F,F,F,F,F,F,F,F,F,F,F,F,F,F,F,F,F,F,F,F,F,F,F,F,F,F,F,F,F,F,F,F] HT_.out ?_
                  refine pv_ 11 (some 132) #[T,T,T,T,T,T,T,T,T,T,T,T,F,F,F,F,F,F,F,F,F,F,F,F,F,F,F,F,F,F,F,F,F,F,F,F,F,F,F,F,F,F,F,F] HT_.out ?_
                  refine pv_ 12 (some 133) #[T,T,T,T,T,T,T,T,T,T,T,T,T,F,F,F,F,F,F,F,F,F,F,F,F,F,F,F,F,F,F,F,F,F,F,F,F,F,F,F,F,F,F,F] HT_.out ?_
                  refine pu_ 13 (some 134) #[T,T,T,T,T,T,T,T,T,T,T,T,T,T,F,F,F,F,F,F,F,F,F,F,F,F,F,F,F,F,F,F,F,F,F,F,F,F,F,F,F,F,F,F] HT_.out ?_
                  refine pu_ 14 (some 135) #[T,T,T,T,T,T,T,T,T,T,T,T,T,T,T,F,F,F,F,F,F,F,F,F,F,F,F,F,F,F,F,F,F,F,F,F,F,F,F,F,F,F,F,F] HT_.out ?_
                  refine pu_ 15 (some 136) #[T,T,T,T,T,T,T,T,T,T,T,T,T,T,T,T,F,F,F,F,F,F,F,F,F,F,F,F,F,F,F,F,F,F,F,F,F,F,F,F,F,F,F,F] HT_.out ?_
                  refine pu_ 16 (some 137) #[T,T,T,T,T,T,T,T,T,T,T,T,T,T,T,T,T,F,F,F,F,F,F,F,F,F,F,F,F,F,F,F,F,F,F,F,F,F,F,F,F,F,F,F] HT_.out ?_
                  refine pu_ 17 (some 138) #[T,T,T,T,T,T,T,T,T,T,T,T,T,T,T,T,T,T,F,F,F,F,F,F,F,F,F,F,F,F,F,F,F,F,F,F,F,F,F,F,F,F,F,F] HT_.out ?_
                  refine pu_ 18 (some 139) #[T,T,T,T,T,T,T,T,T,T,T,T,T,T,T,T,T,T,T,F,F,F,F,F,F,F,F,F,F,F,F,F,F,F,F,F,F,F,F,F,F,F,F,F] HT_.out ?_
                  refine pu_ 19 (some 140) #[T,T,T,T,T,T,T,T,T,T,T,T,T,T,T,T,T,T,T,T,F,F,F,F,F,F,F,F,F,F,F,F,F,F,F,F,F,F,F,F,F,F,F,F] HT_.out ?_
                  refine pv_ 20 (some 141) #[T,T,T,T,T,T,T,T,T,T,T,T,T,T,T,T,T,T,T,T,T,F,F,F,F,F,F,F,F,F,F,F,F,F,F,F,F,F,F,F,F,F,F,F] HT_.out ?_
                  refine pv_ 21 (some 142) #[T,T,T,T,T,T,T,T,T,T,T,T,T,T,T,T,T,T,T,T,T,T,F,F,F,F,F,F,F,F,F,F,F,F,F,F,F,F,F,F,F,F,F,F] HT_.out ?_
                  refine pv_ 22 (some 143) #[T,T,T,T,T,T,T,T,T,T,T,T,T,T,T,T,T,T,T,T,T,T,T,F,F,F,F,F,F,F,F,F,F,F,F,F,F,F,F,F,F,F,F,F] HT_.out ?_
                  refine pv_ 23 (some 144) #[T,T,T,T,T,T,T,T,T,T,T,T,T,T,T,T,T,T,T,T,T,T,T,T,F,F,F,F,F,F,F,F,F,F,F,F,F,F,F,F,F,F,F,F] HT_.out ?_
                  refine pv_ 24 (some 145) #[T,T,T,T,T,T,T,T,T,T,T,T,T,T,T,T,T,T,T,T,T,T,T,T,T,F,F,F,F,F,F,F,F,F,F,F,F,F,F,F,F,F,F,F] HT_.out ?_
                  refine pv_ 25 (some 146) #[T,T,T,T,T,T,T,T,T,T,T,T,T,T,T,T,T,T,T,T,T,T,T,T,T,T,F,F,F,F,F,F,F,F,F,F,F,F,F,F,F,F,F,F] HT_.out ?_
                  refine pv_ 27 (some 148) #[T,T,T,T,T,T,T,T,T,T,T,T,T,T,T,T,T,T,T,T,T,T,T,T,T,T,F,T,F,F,F,F,F,F,F,F,F,F,F,F,F,F,F,F] HT_.out ?_
                  refine pv_ 28 (some 149) #[T,T,T,T,T,T,T,T,T,T,T,T,T,T,T,T,T,T,T,T,T,T,T,T,T,T,F,T,T,F,F,F,F,F,F,F,F,F,F,F,F,F,F,F] HT_.out ?_
                  refine pv_ 29 (some 150) #[T,T,T,T,T,T,T,T,T,T,T,T,T,T,T,T,T,T,T,T,T,T,T,T,T,T,F,T,T,T,F,F,F,F,F,F,F,F,F,F,F,F,F,F] HT_.out ?_
                  refine pv_ 30 (some 151) #[T,T,T,T,T,T,T,T,T,T,T,T,T,T,T,T,T,T,T,T,T,T,T,T,T,T,F,T,T,T,T,F,F,F,F,F,F,F,F,F,F,F,F,F] HT_.out ?_
                  refine tv20_ 26 (some 147) #[T,T,T,T,T,T,T,T,T,T,T,T,T,T,T,T,T,T,T,T,T,T,T,T,T,T,T,T,T,T,T,F,F,F,F,F,F,F,F,F,F,F,F,F] HT_.out HW_.out hHeld ?_
                  refine tv20_ 31 (some 152) #[T,T,T,T,T,T,T,T,T,T,T,T,T,T,T,T,T,T,T,T,T,T,T,T,T,T,T,T,T,T,T,T,F,F,F,F,F,F,F,F,F,F,F,F] HT_.out HW_.out hHeld ?_
                  refine pv_ 32 (some 153) #[T,T,T,T,T,T,T,T,T,T,T,T,T,T,T,T,T,T,T,T,T,T,T,T,T,T,T,T,T,T,T,T,T,F,F,F,F,F,F,F,F,F,F,F] HT_.out ?_
                  refine pv_ 33 (some 154) #[T,T,T,T,T,T,T,T,T,T,T,T,T,T,T,T,T,T,T,T,T,T,T,T,T,T,T,T,T,T,T,T,T,T,F,F,F,F,F,F,F,F,F,F] HT_.out ?_
                  refine pv_ 34 (some 155) #[T,T,T,T,T,T,T,T,T,T,T,T,T,T,T,T,T,T,T,T,T,T,T,T,T,T,T,T,T,T,T,T,T,T,T,F,F,F,F,F,F,F,F,F] HT_.out ?_
                  refine pv_ 35 (some 156) #[T,T,T,T,T,T,T,T,T,T,T,T,T,T,T,T,T,T,T,T,T,T,T,T,T,T,T,T,T,T,T,T,T,T,T,T,F,F,F,F,F,F,F,F] HT_.out ?_
                  refine pv_ 36 (some 157) #[T,T,T,T,T,T,T,T,T,T,T,T,T,T,T,T,T,T,T,T,T,T,T,T,T,T,T,T,T,T,T,T,T,T,T,T,T,F,F,F,F,F,F,F] HT_.out ?_
                  refine pv_ 37 (some 158) #[T,T,T,T,T,T,T,T,T,T,T,T,T,T,T,T,T,T,T,T,T,T,T,T,T,T,T,T,T,T,T,T,T,T,T,T,T,T,F,F,F,F,F,F] HT_.out ?_
                  refine pv_ 38 (some 159) #[T,T,T,T,T,T,T,T,T,T,T,T,T,T,T,T,T,T,T,T,T,T,T,T,T,T,T,T,T,T,T,T,T,T,T,T,T,T,T,F,F,F,F,F] HT_.out ?_
                  refine tv20_ 39 (some 160) #[T,T,T,T,T,T,T,T,T,T,T,T,T,T,T,T,T,T,T,T,T,T,T,T,T,T,T,T,T,T,T,T,T,T,T,T,T,T,T,T,F,F,F,F] HT_.out HW_.out hHeld ?_
                  refine one_ (i := 40) (N := some 161) #[T,T,T,T,T,T,T,T,T,T,T,T,T,T,T,T,T,T,T,T,T,T,T,T,T,T,T,T,T,T,T,T,T,T,T,T,T,T,T,T,T,F,F,F] rfl rfl (one_of HT_.out (by kernel_rfl)) (by decide) (fun K hK => ?_)
                  refine goes_ Tryz.func16 (by kernel_rfl) rfl #[.slice Ao34 t451.length co34, .int .i64 ((rd_T41 t450 x19_4).f0)] (by rfl) rfl rfl gl_ ?_
                  with_reducible refine (laws_rHas.calls k4 _ _ t451 ((rd_T41 t450 x19_4).f0) true _ ?side1 ?side2 A49.out).mono ?_
                  (case side1 => exact z39_)
                  (case side2 => exact (Kd.R_reads' HO_14.out).2.1)
                  rintro e w' ⟨rfl, ⟨nd, rfl⟩⟩
                  refine ⟨_, rfl, ?_⟩
                  refine hK.out _ _ ⟨hHeld.1, hHeld.2.1, hHeld.2.2.1, hHeld.2.2.2.1, hHeld.2.2.2.2.1, hHeld.2.2.2.2.2.1, hHeld.2.2.2.2.2.2.1, hHeld.2.2.2.2.2.2.2.1, hHeld.2.2.2.2.2.2.2.2.1, hHeld.2.2.2.2.2.2.2.2.2.1, hHeld.2.2.2.2.2.2.2.2.2.2.1, hHeld.2.2.2.2.2.2.2.2.2.2.2.1, hHeld.2.2.2.2.2.2.2.2.2.2.2.2.1, hHeld.2.2.2.2.2.2.2.2.2.2.2.2.2.1, hHeld.2.2.2.2.2.2.2.2.2.2.2.2.2.2.1, hHeld.2.2.2.2.2.2.2.2.2.2.2.2.2.2.2.1, hHeld.2.2.2.2.2.2.2.2.2.2.2.2.2.2.2.2.1, hHeld.2.2.2.2.2.2.2.2.2.2.2.2.2.2.2.2.2.1, hHeld.2.2.2.2.2.2.2.2.2.2.2.2.2.2.2.2.2.2.1, hHeld.2.2.2.2.2.2.2.2.2.2.2.2.2.2.2.2.2.2.2⟩ (fun hHeld => ?_)
                  clear hK K
                  refine nm_ (some 161) ?_
                  refine pv_ 41 (some 162) #[T,T,T,T,T,T,T,T,T,T,T,T,T,T,T,T,T,T,T,T,T,T,T,T,T,T,T,T,T,T,T,T,T,T,T,T,T,T,T,T,T,T,F,F] HT_.out ?_
                  refine pv_ 42 (some 163) #[T,T,T,T,T,T,T,T,T,T,T,T,T,T,T,T,T,T,T,T,T,T,T,T,T,T,T,T,T,T,T,T,T,T,T,T,T,T,T,T,T,T,T,F] HT_.out ?_
                  refine pv_ 43 (some 164) #[T,T,T,T,T,T,T,T,T,T,T,T,T,T,T,T,T,T,T,T,T,T,T,T,T,T,T,T,T,T,T,T,T,T,T,T,T,T,T,T,T,T,T,T] HT_.out ?_
                  refine done_ (done_of HT_.out (by kernel_rfl)) ?_
                  try go_wp2
                  go_roundg k4
                  case measure => have := HJ6.out; have := HJ16.out; have := HJ30.out; have := HK4.out; omega
                  case rel => exact ⟨(wrap64 (x19_4 + 1)), z2_, H', ⟨by have := HJ6.out; have := HJ16.out; have := HJ30.out; have := HK4.out; omega⟩, ⟨z30_⟩, ⟨z31_⟩, ⟨z32_⟩, ⟨z5_⟩⟩
                 ·replace c50 := Bool.eq_false_iff.mpr c50
                  subst c50
                  have H1 : (none) = some r := by rw [if_neg (show ¬ (false = true) by decide)] at H; exact H
                  clear H; have H := H1; clear H1
                  exact absurd H (by simp)
               ·rw [if_neg c45] at H
                have c45b0 : ((wrap64 (((rd_T41 t456 x19_4).f3) - ((rd_T41 t450 x19_4).f3))) == 1) = false := beq_eq_false_iff_ne.mpr c45
                have c45b1 : ((wrap64 (((rd_T41 t456 x19_4).f3) - ((rd_T41 t450 x19_4).f3))) != 1) = true := bne_iff_ne.mpr c45
                replace H := Option.bind_eq_some_iff.mp H; obtain ⟨t472, A530, H⟩ := H
                replace H : (if t472 = true then (none) else (if ((rd_T41 t456 x19_4).f3) = ((rd_T41 t450 x19_4).f3) then (laws_FnTeams.l0 k4 l0 t450 t451 t456 t457 (wrap64 (x19_4 + 1))) else ((laws_rHas.f k4 t451 ((rd_T41 t450 x19_4).f0)).bind fun t476 => (if t476 = true then (laws_FnTeams.l0 k4 l0 t450 t451 t456 t457 (wrap64 (x19_4 + 1))) else (none))))) = some r := H
                have A53 := Aside0.mk A530; clear A530
                by_cases c54 : t472 = true
                ·subst c54
                 have H1 : (none) = some r := by rw [if_pos rfl] at H; exact H
                 clear H; have H := H1; clear H1
                 exact absurd H (by simp)
                ·replace c54 := Bool.eq_false_iff.mpr c54
                 subst c54
                 have H1 : (if ((rd_T41 t456 x19_4).f3) = ((rd_T41 t450 x19_4).f3) then (laws_FnTeams.l0 k4 l0 t450 t451 t456 t457 (wrap64 (x19_4 + 1))) else ((laws_rHas.f k4 t451 ((rd_T41 t450 x19_4).f0)).bind fun t476 => (if t476 = true then (laws_FnTeams.l0 k4 l0 t450 t451 t456 t457 (wrap64 (x19_4 + 1))) else (none)))) = some r := by rw [if_neg (show ¬ (false = true) by decide)] at H; exact H
                 clear H; have H := H1; clear H1
                 by_cases c55 : ((rd_T41 t456 x19_4).f3) = ((rd_T41 t450 x19_4).f3)
                 ·rw [if_pos c55] at H
                  have c55b0 : (((rd_T41 t456 x19_4).f3) == ((rd_T41 t450 x19_4).f3)) = true := beq_iff_eq.mpr c55
                  have c55b1 : (((rd_T41 t456 x19_4).f3) != ((rd_T41 t450 x19_4).f3)) = false := bne_eq_false_iff_eq.mpr c55
                  clear c55
                  have H' := Aside0.mk H
                  clear H
                  obtain ⟨Ao56, co56, eo56⟩ := Kd.R_slice HO_15.out
                  subst eo56
                  try go_wp2
                  have n0_ := Aside0.mk (Kd.R_drew HO_13.out)
                  have n1_ := Aside0.mk (Kd.R_drew HO_14.out)
                  have n2_ := Aside0.mk (Kd.R_drew HO_15.out)
                  have n3_ := Aside0.mk (below_drew1 HB.out)
                  clear HO_13; clear HO_14; clear HO_15; clear HB; have HO_13 := n0_; have HO_14 := n1_; have HO_15 := n2_; have HB := n3_; clear n0_ n1_ n2_ n3_
                  have p465 : 0 ≤ (x19_4 : Int) := od_
                  have q465 : x19_4 < (t456.length : Int) := od_
                  obtain ⟨ad465, e465, hx465_0, hx465_1, hx465_2, hx465_3⟩ := at_T41 (Kd.R_reads' HO_15.out).2.2 x19_4 p465 q465
                  cases e465
                  replace p465 := eq_true p465
                  replace q465 := eq_true q465
                  have p466 : 0 ≤ (x19_4 : Int) := od_
                  have q466 : x19_4 < (t450.length : Int) := od_
                  obtain ⟨ad466, e466, hx466_0, hx466_1, hx466_2, hx466_3⟩ := at_T41 (Kd.R_reads' HO_13.out).2.2 x19_4 p466 q466
                  cases e466
                  replace p466 := eq_true p466
                  replace q466 := eq_true q466
                  have p471 : 0 ≤ (x19_4 : Int) := od_
                  have q471 : x19_4 < (t450.length : Int) := od_
                  obtain ⟨ad471, e471, hx471_0, hx471_1, hx471_2, hx471_3⟩ := at_T41 (Kd.R_reads' HO_13.out).2.2 x19_4 p471 q471
                  obtain rfl : ad466 = ad471 := (by injection e471)
                  replace p471 := eq_true p471
                  replace q471 := eq_true q471
                  have p473 : 0 ≤ (x19_4 : Int) := od_
                  have q473 : x19_4 < (t456.length : Int) := od_
                  obtain ⟨ad473, e473, hx473_0, hx473_1, hx473_2, hx473_3⟩ := at_T41 (Kd.R_reads' HO_15.out).2.2 x19_4 p473 q473
                  obtain rfl : ad465 = ad473 := (by injection e473)
                  replace p473 := eq_true p473
                  replace q473 := eq_true q473
                  have p474 : 0 ≤ (x19_4 : Int) := od_
                  have q474 : x19_4 < (t450.length : Int) := od_
                  obtain ⟨ad474, e474, hx474_0, hx474_1, hx474_2, hx474_3⟩ := at_T41 (Kd.R_reads' HO_13.out).2.2 x19_4 p474 q474
                  obtain rfl : ad466 = ad474 := (by injection e474)
                  replace p474 := eq_true p474
                  replace q474 := eq_true q474
                  refine start_ (n := 44) (S := fun w' => w'.cell? (ad465.add ((x19_4).toNat * 4)) = some (.int .i64 ((rd_T41 t456 x19_4).f0)) ∧ w'.cell? ⟨(ad465.add ((x19_4).toNat * 4)).block, (ad465.add ((x19_4).toNat * 4)).off + 1, none⟩ = some (.string ((rd_T41 t456 x19_4).f1)) ∧ w'.cell? ⟨(ad465.add ((x19_4).toNat * 4)).block, (ad465.add ((x19_4).toNat * 4)).off + 2, none⟩ = some (.int .i64 ((rd_T41 t456 x19_4).f2)) ∧ w'.cell? ⟨(ad465.add ((x19_4).toNat * 4)).block, (ad465.add ((x19_4).toNat * 4)).off + 3, none⟩ = some (.int .i64 ((rd_T41 t456 x19_4).f3)) ∧ w'.cell? (ad466.add ((x19_4).toNat * 4)) = some (.int .i64 ((rd_T41 t450 x19_4).f0)) ∧ w'.cell? ⟨(ad466.add ((x19_4).toNat * 4)).block, (ad466.add ((x19_4).toNat * 4)).off + 1, none⟩ = some (.string ((rd_T41 t450 x19_4).f1)) ∧ w'.cell? ⟨(ad466.add ((x19_4).toNat * 4)).block, (ad466.add ((x19_4).toNat * 4)).off + 2, none⟩ = some (.int .i64 ((rd_T41 t450 x19_4).f2)) ∧ w'.cell? ⟨(ad466.add ((x19_4).toNat * 4)).block, (ad466.add ((x19_4).toNat * 4)).off + 3, none⟩ = some (.int .i64 ((rd_T41 t450 x19_4).f3)) ∧ w'.cell? (ad466.add ((x19_4).toNat * 4)) = some (.int .i64 ((rd_T41 t450 x19_4).f0)) ∧ w'.cell? ⟨(ad466.add ((x19_4).toNat * 4)).block, (ad466.add ((x19_4).toNat * 4)).off + 1, none⟩ = some (.string ((rd_T41 t450 x19_4).f1)) ∧ w'.cell? ⟨(ad466.add ((x19_4).toNat * 4)).block, (ad466.add ((x19_4).toNat * 4)).off + 2, none⟩ = some (.int .i64 ((rd_T41 t450 x19_4).f2)) ∧ w'.cell? ⟨(ad466.add ((x19_4).toNat * 4)).block, (ad466.add ((x19_4).toNat * 4)).off + 3, none⟩ = some (.int .i64 ((rd_T41 t450 x19_4).f3)) ∧ w'.cell? (ad465.add ((x19_4).toNat * 4)) = some (.int .i64 ((rd_T41 t456 x19_4).f0)) ∧ w'.cell? ⟨(ad465.add ((x19_4).toNat * 4)).block, (ad465.add ((x19_4).toNat * 4)).off + 1, none⟩ = some (.string ((rd_T41 t456 x19_4).f1)) ∧ w'.cell? ⟨(ad465.add ((x19_4).toNat * 4)).block, (ad465.add ((x19_4).toNat * 4)).off + 2, none⟩ = some (.int .i64 ((rd_T41 t456 x19_4).f2)) ∧ w'.cell? ⟨(ad465.add ((x19_4).toNat * 4)).block, (ad465.add ((x19_4).toNat * 4)).off + 3, none⟩ = some (.int .i64 ((rd_T41 t456 x19_4).f3)) ∧ w'.cell? (ad466.add ((x19_4).toNat * 4)) = some (.int .i64 ((rd_T41 t450 x19_4).f0)) ∧ w'.cell? ⟨(ad466.add ((x19_4).toNat * 4)).block, (ad466.add ((x19_4).toNat * 4)).off + 1, none⟩ = some (.string ((rd_T41 t450 x19_4).f1)) ∧ w'.cell? ⟨(ad466.add ((x19_4).toNat * 4)).block, (ad466.add ((x19_4).toNat * 4)).off + 2, none⟩ = some (.int .i64 ((rd_T41 t450 x19_4).f2)) ∧ w'.cell? ⟨(ad466.add ((x19_4).toNat * 4)).block, (ad466.add ((x19_4).toNat * 4)).off + 3, none⟩ = some (.int .i64 ((rd_T41 t450 x19_4).f3))) (ds := []) #[F,F,F,F,F,F,F,F,F,F,F,F,F,F,F,F,F,F,F,F,F,F,F,F,F,F,F,F,F,F,F,F,F,F,F,F,F,F,F,F,F,F,F,F] (by kernel_rfl) rfl rfl ⟨hx465_0, hx465_1, hx465_2, hx465_3, hx466_0, hx466_1, hx466_2, hx466_3, hx471_0, hx471_1, hx471_2, hx471_3, hx473_0, hx473_1, hx473_2, hx473_3, hx474_0, hx474_1, hx474_2, hx474_3⟩ (fun hHeld => ?_); refine with_tabW laws_FnTeams.tab21 laws_FnTeams.bits21 (fun HT_ HW_ => ?_)
                  generalize wr.drew = w57 at HO_13 HO_14 HO_15 HB hx465_0 hx465_1 hx465_2 hx465_3 hx466_0 hx466_1 hx466_2 hx466_3 hx471_0 hx471_1 hx471_2 hx471_3 hx473_0 hx473_1 hx473_2 hx473_3 hx474_0 hx474_1 hx474_2 hx474_3 hHeld ⊢
                  refine pv_ 0 (some 121) #[T,F,F,F,F,F,F,F,F,F,F,F,F,F,F,F,F,F,F,F,F,F,F,F,F,F,F,F,F,F,F,F,F,F,F,F,F,F,F,F,F,F,F,F] HT_.out ?_
                  refine pv_ 1 (some 122) #[T,T,F,F,F,F,F,F,F,F,F,F,F,F,F,F,F,F,F,F,F,F,F,F,F,F,F,F,F,F,F,F,F,F,F,F,F,F,F,F,F,F,F,F] HT_.out ?_
                  refine pv_ 2 (some 123) #[T,T,T,F,F,F,F,F,F,F,F,F,F,F,F,F,F,F,F,F,F,F,F,F,F,F,F,F,F,F,F,F,F,F,F,F,F,F,F,F,F,F,F,F] HT_.out ?_
                  refine pv_ 3 (some 124) #[T,T,T,T,F,F,F,F,F,F,F,F,F,F,F,F,F,F,F,F,F,F,F,F,F,F,F,F,F,F,F,F,F,F,F,F,F,F,F,F,F,F,F,F] HT_.out ?_
                  refine pv_ 5 (some 126) #[T,T,T,T,F,T,F,F,F,F,F,F,F,F,F,F,F,F,F,F,F,F,F,F,F,F,F,F,F,F,F,F,F,F,F,F,F,F,F,F,F,F,F,F] HT_.out ?_
                  refine pv_ 6 (some 127) #[T,T,T,T,F,T,T,F,F,F,F,F,F,F,F,F,F,F,F,F,F,F,F,F,F,F,F,F,F,F,F,F,F,F,F,F,F,F,F,F,F,F,F,F] HT_.out ?_
                  refine pv_ 7 (some 128) #[T,T,T,T,F,T,T,T,F,F,F,F,F,F,F,F,F,F,F,F,F,F,F,F,F,F,F,F,F,F,F,F,F,F,F,F,F,F,F,F,F,F,F,F] HT_.out ?_
                  refine pv_ 8 (some 129) #[T,T,T,T,F,T,T,T,T,F,F,F,F,F,F,F,F,F,F,F,F,F,F,F,F,F,F,F,F,F,F,F,F,F,F,F,F,F,F,F,F,F,F,F] HT_.out ?_
                  refine tv20_ 4 (some 125) #[T,T,T,T,T,T,T,T,T,F,F,F,F,F,F,F,F,F,F,F,F,F,F,F,F,F,F,F,F,F,F,F,F,F,F,F,F,F,F,F,F,F,F,F] HT_.out HW_.out hHeld ?_
                  refine tv20_ 9 (some 130) #[T,T,T,T,T,T,T,T,T,T,F,F,F,F,F,F,F,F,F,F,F,F,F,F,F,F,F,F,F,F,F,F,F,F,F,F,F,F,F,F,F,F,F,F] HT_.out HW_.out hHeld ?_
                  refine pv_ 10 (some 131) #[T,T,T,T,T,T,T,T,T,T,T,F,F,F,F,F,F,F,F,F,F,F,F,F,F,F,F,F,F,F,F,F,F,F,F,F,F,F,F,F,F,F,F,F] HT_.out ?_
                  refine pv_ 11 (some 132) #[T,T,T,T,T,T,T,T,T,T,T,T,F,F,F,F,F,F,F,F,F,F,F,F,F,F,F,F,F,F,F,F,F,F,F,F,F,F,F,F,F,F,F,F] HT_.out ?_
                  refine pv_ 12 (some 133) #[T,T,T,T,T,T,T,T,T,T,T,T,T,F,F,F,F,F,F,F,F,F,F,F,F,F,F,F,F,F,F,F,F,F,F,F,F,F,F,F,F,F,F,F] HT_.out ?_
                  refine pv_ 13 (some 134) #[T,T,T,T,T,T,T,T,T,T,T,T,T,T,F,F,F,F,F,F,F,F,F,F,F,F,F,F,F,F,F,F,F,F,F,F,F,F,F,F,F,F,F,F] HT_.out ?_
                  refine pv_ 14 (some 135) #[T,T,T,T,T,T,T,T,T,T,T,T,T,T,T,F,F,F,F,F,F,F,F,F,F,F,F,F,F,F,F,F,F,F,F,F,F,F,F,F,F,F,F,F] HT_.out ?_
                  refine pv_ 15 (some 136) #[T,T,T,T,T,T,T,T,T,T,T,T,T,T,T,T,F,F,F,F,F,F,F,F,F,F,F,F,F,F,F,F,F,F,F,F,F,F,F,F,F,F,F,F] HT_.out ?_
                  refine pv_ 16 (some 137) #[T,T,T,T,T,T,T,T,T,T,T,T,T,T,T,T,T,F,F,F,F,F,F,F,F,F,F,F,F,F,F,F,F,F,F,F,F,F,F,F,F,F,F,F] HT_.out ?_
                  refine pv_ 17 (some 138) #[T,T,T,T,T,T,T,T,T,T,T,T,T,T,T,T,T,T,F,F,F,F,F,F,F,F,F,F,F,F,F,F,F,F,F,F,F,F,F,F,F,F,F,F] HT_.out ?_
                  refine tv20_ 18 (some 139) #[T,T,T,T,T,T,T,T,T,T,T,T,T,T,T,T,T,T,T,F,F,F,F,F,F,F,F,F,F,F,F,F,F,F,F,F,F,F,F,F,F,F,F,F] HT_.out HW_.out hHeld ?_
                  refine one_ (i := 19) (N := some 140) #[T,T,T,T,T,T,T,T,T,T,T,T,T,T,T,T,T,T,T,T,F,F,F,F,F,F,F,F,F,F,F,F,F,F,F,F,F,F,F,F,F,F,F,F] rfl rfl (one_of HT_.out (by kernel_rfl)) (by decide) (fun K hK => ?_)
                  refine goes_ Tryz.func16 (by kernel_rfl) rfl #[.slice Ao34 t451.length co34, .int .i64 ((rd_T41 t450 x19_4).f0)] (by rfl) rfl rfl gl_ ?_
                  with_reducible refine (laws_rHas.calls k4 _ _ t451 ((rd_T41 t450 x19_4).f0) false _ ?side1 ?side2 A53.out).mono ?_
                  (case side1 => exact z39_)
                  (case side2 => exact (Kd.R_reads' HO_14.out).2.1)
                  rintro e w' ⟨rfl, ⟨nd, rfl⟩⟩
                  refine ⟨_, rfl, ?_⟩
                  refine hK.out _ _ ⟨hHeld.1, hHeld.2.1, hHeld.2.2.1, hHeld.2.2.2.1, hHeld.2.2.2.2.1, hHeld.2.2.2.2.2.1, hHeld.2.2.2.2.2.2.1, hHeld.2.2.2.2.2.2.2.1, hHeld.2.2.2.2.2.2.2.2.1, hHeld.2.2.2.2.2.2.2.2.2.1, hHeld.2.2.2.2.2.2.2.2.2.2.1, hHeld.2.2.2.2.2.2.2.2.2.2.2.1, hHeld.2.2.2.2.2.2.2.2.2.2.2.2.1, hHeld.2.2.2.2.2.2.2.2.2.2.2.2.2.1, hHeld.2.2.2.2.2.2.2.2.2.2.2.2.2.2.1, hHeld.2.2.2.2.2.2.2.2.2.2.2.2.2.2.2.1, hHeld.2.2.2.2.2.2.2.2.2.2.2.2.2.2.2.2.1, hHeld.2.2.2.2.2.2.2.2.2.2.2.2.2.2.2.2.2.1, hHeld.2.2.2.2.2.2.2.2.2.2.2.2.2.2.2.2.2.2.1, hHeld.2.2.2.2.2.2.2.2.2.2.2.2.2.2.2.2.2.2.2⟩ (fun hHeld => ?_)
                  clear hK K
                  refine nm_ (some 140) ?_
                  refine pv_ 20 (some 141) #[T,T,T,T,T,T,T,T,T,T,T,T,T,T,T,T,T,T,T,T,T,F,F,F,F,F,F,F,F,F,F,F,F,F,F,F,F,F,F,F,F,F,F,F] HT_.out ?_
                  refine pv_ 21 (some 142) #[T,T,T,T,T,T,T,T,T,T,T,T,T,T,T,T,T,T,T,T,T,T,F,F,F,F,F,F,F,F,F,F,F,F,F,F,F,F,F,F,F,F,F,F] HT_.out ?_
                  refine pv_ 22 (some 143) #[T,T,T,T,T,T,T,T,T,T,T,T,T,T,T,T,T,T,T,T,T,T,T,F,F,F,F,F,F,F,F,F,F,F,F,F,F,F,F,F,F,F,F,F] HT_.out ?_
                  refine pv_ 23 (some 144) #[T,T,T,T,T,T,T,T,T,T,T,T,T,T,T,T,T,T,T,T,T,T,T,T,F,F,F,F,F,F,F,F,F,F,F,F,F,F,F,F,F,F,F,F] HT_.out ?_
                  refine pv_ 24 (some 145) #[T,T,T,T,T,T,T,T,T,T,T,T,T,T,T,T,T,T,T,T,T,T,T,T,T,F,F,F,F,F,F,F,F,F,F,F,F,F,F,F,F,F,F,F] HT_.out ?_
                  refine pv_ 25 (some 146) #[T,T,T,T,T,T,T,T,T,T,T,T,T,T,T,T,T,T,T,T,T,T,T,T,T,T,F,F,F,F,F,F,F,F,F,F,F,F,F,F,F,F,F,F] HT_.out ?_
                  refine pv_ 27 (some 148) #[T,T,T,T,T,T,T,T,T,T,T,T,T,T,T,T,T,T,T,T,T,T,T,T,T,T,F,T,F,F,F,F,F,F,F,F,F,F,F,F,F,F,F,F] HT_.out ?_
                  refine pv_ 28 (some 149) #[T,T,T,T,T,T,T,T,T,T,T,T,T,T,T,T,T,T,T,T,T,T,T,T,T,T,F,T,T,F,F,F,F,F,F,F,F,F,F,F,F,F,F,F] HT_.out ?_
                  refine pv_ 29 (some 150) #[T,T,T,T,T,T,T,T,T,T,T,T,T,T,T,T,T,T,T,T,T,T,T,T,T,T,F,T,T,T,F,F,F,F,F,F,F,F,F,F,F,F,F,F] HT_.out ?_
                  refine pv_ 30 (some 151) #[T,T,T,T,T,T,T,T,T,T,T,T,T,T,T,T,T,T,T,T,T,T,T,T,T,T,F,T,T,T,T,F,F,F,F,F,F,F,F,F,F,F,F,F] HT_.out ?_
                  refine tv20_ 26 (some 147) #[T,T,T,T,T,T,T,T,T,T,T,T,T,T,T,T,T,T,T,T,T,T,T,T,T,T,T,T,T,T,T,F,F,F,F,F,F,F,F,F,F,F,F,F] HT_.out HW_.out hHeld ?_
                  refine tv20_ 31 (some 152) #[T,T,T,T,T,T,T,T,T,T,T,T,T,T,T,T,T,T,T,T,T,T,T,T,T,T,T,T,T,T,T,T,F,F,F,F,F,F,F,F,F,F,F,F] HT_.out HW_.out hHeld ?_
                  refine pv_ 32 (some 153) #[T,T,T,T,T,T,T,T,T,T,T,T,T,T,T,T,T,T,T,T,T,T,T,T,T,T,T,T,T,T,T,T,T,F,F,F,F,F,F,F,F,F,F,F] HT_.out ?_
                  refine pv_ 33 (some 154) #[T,T,T,T,T,T,T,T,T,T,T,T,T,T,T,T,T,T,T,T,T,T,T,T,T,T,T,T,T,T,T,T,T,T,F,F,F,F,F,F,F,F,F,F] HT_.out ?_
                  refine pu_ 34 (some 155) #[T,T,T,T,T,T,T,T,T,T,T,T,T,T,T,T,T,T,T,T,T,T,T,T,T,T,T,T,T,T,T,T,T,T,T,F,F,F,F,F,F,F,F,F] HT_.out ?_
                  refine pu_ 35 (some 156) #[T,T,T,T,T,T,T,T,T,T,T,T,T,T,T,T,T,T,T,T,T,T,T,T,T,T,T,T,T,T,T,T,T,T,T,T,F,F,F,F,F,F,F,F] HT_.out ?_
                  refine pu_ 36 (some 157) #[T,T,T,T,T,T,T,T,T,T,T,T,T,T,T,T,T,T,T,T,T,T,T,T,T,T,T,T,T,T,T,T,T,T,T,T,T,F,F,F,F,F,F,F] HT_.out ?_
                  refine pu_ 37 (some 158) #[T,T,T,T,T,T,T,T,T,T,T,T,T,T,T,T,T,T,T,T,T,T,T,T,T,T,T,T,T,T,T,T,T,T,T,T,T,T,F,F,F,F,F,F] HT_.out ?_
                  refine pu_ 38 (some 159) #[T,T,T,T,T,T,T,T,T,T,T,T,T,T,T,T,T,T,T,T,T,T,T,T,T,T,T,T,T,T,T,T,T,T,T,T,T,T,T,F,F,F,F,F] HT_.out ?_
                  refine pu_ 39 (some 160) #[T,T,T,T,T,T,T,T,T,T,T,T,T,T,T,T,T,T,T,T,T,T,T,T,T,T,T,T,T,T,T,T,T,T,T,T,T,T,T,T,F,F,F,F] HT_.out ?_
                  refine pu_ 40 (some 161) #[T,T,T,T,T,T,T,T,T,T,T,T,T,T,T,T,T,T,T,T,T,T,T,T,T,T,T,T,T,T,T,T,T,T,T,T,T,T,T,T,T,F,F,F] HT_.out ?_
                  refine pu_ 41 (some 162) #[T,T,T,T,T,T,T,T,T,T,T,T,T,T,T,T,T,T,T,T,T,T,T,T,T,T,T,T,T,T,T,T,T,T,T,T,T,T,T,T,T,T,F,F] HT_.out ?_
                  refine pv_ 42 (some 163) #[T,T,T,T,T,T,T,T,T,T,T,T,T,T,T,T,T,T,T,T,T,T,T,T,T,T,T,T,T,T,T,T,T,T,T,T,T,T,T,T,T,T,T,F] HT_.out ?_
                  refine pv_ 43 (some 164) #[T,T,T,T,T,T,T,T,T,T,T,T,T,T,T,T,T,T,T,T,T,T,T,T,T,T,T,T,T,T,T,T,T,T,T,T,T,T,T,T,T,T,T,T] HT_.out ?_
                  refine done_ (done_of HT_.out (by kernel_rfl)) ?_
                  try go_wp2
                  go_roundg k4
                  case measure => have := HJ6.out; have := HJ16.out; have := HJ30.out; have := HK4.out; omega
                  case rel => exact ⟨(wrap64 (x19_4 + 1)), z2_, H', ⟨by have := HJ6.out; have := HJ16.out; have := HJ30.out; have := HK4.out; omega⟩, ⟨z30_⟩, ⟨z31_⟩, ⟨z32_⟩, ⟨z5_⟩⟩
                 ·rw [if_neg c55] at H
                  have c55b0 : (((rd_T41 t456 x19_4).f3) == ((rd_T41 t450 x19_4).f3)) = false := beq_eq_false_iff_ne.mpr c55
                  have c55b1 : (((rd_T41 t456 x19_4).f3) != ((rd_T41 t450 x19_4).f3)) = true := bne_iff_ne.mpr c55
                  replace H := Option.bind_eq_some_iff.mp H; obtain ⟨t476, A580, H⟩ := H
                  replace H : (if t476 = true then (laws_FnTeams.l0 k4 l0 t450 t451 t456 t457 (wrap64 (x19_4 + 1))) else (none)) = some r := H
                  have A58 := Aside0.mk A580; clear A580
                  by_cases c59 : t476 = true
                  ·subst c59
                   have H1 : (laws_FnTeams.l0 k4 l0 t450 t451 t456 t457 (wrap64 (x19_4 + 1))) = some r := by rw [if_pos rfl] at H; exact H
                   clear H; have H := H1; clear H1
                   have H' := Aside0.mk H
                   clear H
                   obtain ⟨Ao60, co60, eo60⟩ := Kd.R_slice HO_15.out
                   subst eo60
                   try go_wp2
                   have n0_ := Aside0.mk (Kd.R_drew HO_13.out)
                   have n1_ := Aside0.mk (Kd.R_drew HO_14.out)
                   have n2_ := Aside0.mk (Kd.R_drew HO_15.out)
                   have n3_ := Aside0.mk (below_drew1 HB.out)
                   clear HO_13; clear HO_14; clear HO_15; clear HB; have HO_13 := n0_; have HO_14 := n1_; have HO_15 := n2_; have HB := n3_; clear n0_ n1_ n2_ n3_
                   have p465 : 0 ≤ (x19_4 : Int) := od_
                   have q465 : x19_4 < (t456.length : Int) := od_
                   obtain ⟨ad465, e465, hx465_0, hx465_1, hx465_2, hx465_3⟩ := at_T41 (Kd.R_reads' HO_15.out).2.2 x19_4 p465 q465
                   cases e465
                   replace p465 := eq_true p465
                   replace q465 := eq_true q465
                   have p466 : 0 ≤ (x19_4 : Int) := od_
                   have q466 : x19_4 < (t450.length : Int) := od_
                   obtain ⟨ad466, e466, hx466_0, hx466_1, hx466_2, hx466_3⟩ := at_T41 (Kd.R_reads' HO_13.out).2.2 x19_4 p466 q466
                   cases e466
                   replace p466 := eq_true p466
                   replace q466 := eq_true q466
                   have p471 : 0 ≤ (x19_4 : Int) := od_
                   have q471 : x19_4 < (t450.length : Int) := od_
                   obtain ⟨ad471, e471, hx471_0, hx471_1, hx471_2, hx471_3⟩ := at_T41 (Kd.R_reads' HO_13.out).2.2 x19_4 p471 q471
                   obtain rfl : ad466 = ad471 := (by injection e471)
                   replace p471 := eq_true p471
                   replace q471 := eq_true q471
                   have p473 : 0 ≤ (x19_4 : Int) := od_
                   have q473 : x19_4 < (t456.length : Int) := od_
                   obtain ⟨ad473, e473, hx473_0, hx473_1, hx473_2, hx473_3⟩ := at_T41 (Kd.R_reads' HO_15.out).2.2 x19_4 p473 q473
                   obtain rfl : ad465 = ad473 := (by injection e473)
                   replace p473 := eq_true p473
                   replace q473 := eq_true q473
                   have p474 : 0 ≤ (x19_4 : Int) := od_
                   have q474 : x19_4 < (t450.length : Int) := od_
                   obtain ⟨ad474, e474, hx474_0, hx474_1, hx474_2, hx474_3⟩ := at_T41 (Kd.R_reads' HO_13.out).2.2 x19_4 p474 q474
                   obtain rfl : ad466 = ad474 := (by injection e474)
                   replace p474 := eq_true p474
                   replace q474 := eq_true q474
                   have p475 : 0 ≤ (x19_4 : Int) := od_
                   have q475 : x19_4 < (t450.length : Int) := od_
                   obtain ⟨ad475, e475, hx475_0, hx475_1, hx475_2, hx475_3⟩ := at_T41 (Kd.R_reads' HO_13.out).2.2 x19_4 p475 q475
                   obtain rfl : ad466 = ad475 := (by injection e475)
                   replace p475 := eq_true p475
                   replace q475 := eq_true q475
                   refine start_ (n := 44) (S := fun w' => w'.cell? (ad465.add ((x19_4).toNat * 4)) = some (.int .i64 ((rd_T41 t456 x19_4).f0)) ∧ w'.cell? ⟨(ad465.add ((x19_4).toNat * 4)).block, (ad465.add ((x19_4).toNat * 4)).off + 1, none⟩ = some (.string ((rd_T41 t456 x19_4).f1)) ∧ w'.cell? ⟨(ad465.add ((x19_4).toNat * 4)).block, (ad465.add ((x19_4).toNat * 4)).off + 2, none⟩ = some (.int .i64 ((rd_T41 t456 x19_4).f2)) ∧ w'.cell? ⟨(ad465.add ((x19_4).toNat * 4)).block, (ad465.add ((x19_4).toNat * 4)).off + 3, none⟩ = some (.int .i64 ((rd_T41 t456 x19_4).f3)) ∧ w'.cell? (ad466.add ((x19_4).toNat * 4)) = some (.int .i64 ((rd_T41 t450 x19_4).f0)) ∧ w'.cell? ⟨(ad466.add ((x19_4).toNat * 4)).block, (ad466.add ((x19_4).toNat * 4)).off + 1, none⟩ = some (.string ((rd_T41 t450 x19_4).f1)) ∧ w'.cell? ⟨(ad466.add ((x19_4).toNat * 4)).block, (ad466.add ((x19_4).toNat * 4)).off + 2, none⟩ = some (.int .i64 ((rd_T41 t450 x19_4).f2)) ∧ w'.cell? ⟨(ad466.add ((x19_4).toNat * 4)).block, (ad466.add ((x19_4).toNat * 4)).off + 3, none⟩ = some (.int .i64 ((rd_T41 t450 x19_4).f3)) ∧ w'.cell? (ad466.add ((x19_4).toNat * 4)) = some (.int .i64 ((rd_T41 t450 x19_4).f0)) ∧ w'.cell? ⟨(ad466.add ((x19_4).toNat * 4)).block, (ad466.add ((x19_4).toNat * 4)).off + 1, none⟩ = some (.string ((rd_T41 t450 x19_4).f1)) ∧ w'.cell? ⟨(ad466.add ((x19_4).toNat * 4)).block, (ad466.add ((x19_4).toNat * 4)).off + 2, none⟩ = some (.int .i64 ((rd_T41 t450 x19_4).f2)) ∧ w'.cell? ⟨(ad466.add ((x19_4).toNat * 4)).block, (ad466.add ((x19_4).toNat * 4)).off + 3, none⟩ = some (.int .i64 ((rd_T41 t450 x19_4).f3)) ∧ w'.cell? (ad465.add ((x19_4).toNat * 4)) = some (.int .i64 ((rd_T41 t456 x19_4).f0)) ∧ w'.cell? ⟨(ad465.add ((x19_4).toNat * 4)).block, (ad465.add ((x19_4).toNat * 4)).off + 1, none⟩ = some (.string ((rd_T41 t456 x19_4).f1)) ∧ w'.cell? ⟨(ad465.add ((x19_4).toNat * 4)).block, (ad465.add ((x19_4).toNat * 4)).off + 2, none⟩ = some (.int .i64 ((rd_T41 t456 x19_4).f2)) ∧ w'.cell? ⟨(ad465.add ((x19_4).toNat * 4)).block, (ad465.add ((x19_4).toNat * 4)).off + 3, none⟩ = some (.int .i64 ((rd_T41 t456 x19_4).f3)) ∧ w'.cell? (ad466.add ((x19_4).toNat * 4)) = some (.int .i64 ((rd_T41 t450 x19_4).f0)) ∧ w'.cell? ⟨(ad466.add ((x19_4).toNat * 4)).block, (ad466.add ((x19_4).toNat * 4)).off + 1, none⟩ = some (.string ((rd_T41 t450 x19_4).f1)) ∧ w'.cell? ⟨(ad466.add ((x19_4).toNat * 4)).block, (ad466.add ((x19_4).toNat * 4)).off + 2, none⟩ = some (.int .i64 ((rd_T41 t450 x19_4).f2)) ∧ w'.cell? ⟨(ad466.add ((x19_4).toNat * 4)).block, (ad466.add ((x19_4).toNat * 4)).off + 3, none⟩ = some (.int .i64 ((rd_T41 t450 x19_4).f3)) ∧ w'.cell? (ad466.add ((x19_4).toNat * 4)) = some (.int .i64 ((rd_T41 t450 x19_4).f0)) ∧ w'.cell? ⟨(ad466.add ((x19_4).toNat * 4)).block, (ad466.add ((x19_4).toNat * 4)).off + 1, none⟩ = some (.string ((rd_T41 t450 x19_4).f1)) ∧ w'.cell? ⟨(ad466.add ((x19_4).toNat * 4)).block, (ad466.add ((x19_4).toNat * 4)).off + 2, none⟩ = some (.int .i64 ((rd_T41 t450 x19_4).f2)) ∧ w'.cell? ⟨(ad466.add ((x19_4).toNat * 4)).block, (ad466.add ((x19_4).toNat * 4)).off + 3, none⟩ = some (.int .i64 ((rd_T41 t450 x19_4).f3))) (ds := []) #[F,F,F,F,F,F,F,F,F,F,F,F,F,F,F,F,F,F,F,F,F,F,F,F,F,F,F,F,F,F,F,F,F,F,F,F,F,F,F,F,F,F,F,F] (by kernel_rfl) rfl rfl ⟨hx465_0, hx465_1, hx465_2, hx465_3, hx466_0, hx466_1, hx466_2, hx466_3, hx471_0, hx471_1, hx471_2, hx471_3, hx473_0, hx473_1, hx473_2, hx473_3, hx474_0, hx474_1, hx474_2, hx474_3, hx475_0, hx475_1, hx475_2, hx475_3⟩ (fun hHeld => ?_); refine with_tabW laws_FnTeams.tab21 laws_FnTeams.bits21 (fun HT_ HW_ => ?_)
                   generalize wr.drew = w61 at HO_13 HO_14 HO_15 HB hx465_0 hx465_1 hx465_2 hx465_3 hx466_0 hx466_1 hx466_2 hx466_3 hx471_0 hx471_1 hx471_2 hx471_3 hx473_0 hx473_1 hx473_2 hx473_3 hx474_0 hx474_1 hx474_2 hx474_3 hx475_0 hx475_1 hx475_2 hx475_3 hHeld ⊢
                   refine pv_ 0 (some 121) #[T,F,F,F,F,F,F,F,F,F,F,F,F,F,F,F,F,F,F,F,F,F,F,F,F,F,F,F,F,F,F,F,F,F,F,F,F,F,F,F,F,F,F,F] HT_.out ?_
                   refine pv_ 1 (some 122) #[T,T,F,F,F,F,F,F,F,F,F,F,F,F,F,F,F,F,F,F,F,F,F,F,F,F,F,F,F,F,F,F,F,F,F,F,F,F,F,F,F,F,F,F] HT_.out ?_
                   refine pv_ 2 (some 123) #[T,T,T,F,F,F,F,F,F,F,F,F,F,F,F,F,F,F,F,F,F,F,F,F,F,F,F,F,F,F,F,F,F,F,F,F,F,F,F,F,F,F,F,F] HT_.out ?_
                   refine pv_ 3 (some 124) #[T,T,T,T,F,F,F,F,F,F,F,F,F,F,F,F,F,F,F,F,F,F,F,F,F,F,F,F,F,F,F,F,F,F,F,F,F,F,F,F,F,F,F,F] HT_.out ?_
                   refine pv_ 5 (some 126) #[T,T,T,T,F,T,F,F,F,F,F,F,F,F,F,F,F,F,F,F,F,F,F,F,F,F,F,F,F,F,F,F,F,F,F,F,F,F,F,F,F,F,F,F] HT_.out ?_
                   refine pv_ 6 (some 127) #[T,T,T,T,F,T,T,F,F,F,F,F,F,F,F,F,F,F,F,F,F,F,F,F,F,F,F,F,F,F,F,F,F,F,F,F,F,F,F,F,F,F,F,F] HT_.out ?_
                   refine pv_ 7 (some 128) #[T,T,T,T,F,T,T,T,F,F,F,F,F,F,F,F,F,F,F,F,F,F,F,F,F,F,F,F,F,F,F,F,F,F,F,F,F,F,F,F,F,F,F,F] HT_.out ?_
                   refine pv_ 8 (some 129) #[T,T,T,T,F,T,T,T,T,F,F,F,F,F,F,F,F,F,F,F,F,F,F,F,F,F,F,F,F,F,F,F,F,F,F,F,F,F,F,F,F,F,F,F] HT_.out ?_
                   refine tv24_ 4 (some 125) #[T,T,T,T,T,T,T,T,T,F,F,F,F,F,F,F,F,F,F,F,F,F,F,F,F,F,F,F,F,F,F,F,F,F,F,F,F,F,F,F,F,F,F,F] HT_.out HW_.out hHeld ?_
                   refine tv24_ 9 (some 130) #[T,T,T,T,T,T,T,T,T,T,F,F,F,F,F,F,F,F,F,F,F,F,F,F,F,F,F,F,F,F,F,F,F,F,F,F,F,F,F,F,F,F,F,F] HT_.out HW_.out hHeld ?_
                   refine pv_ 10 (some 131) #[T,T,T,T,T,T,T,T,T,T,T,F,F,F,F,F,F,F,F,F,F,F,F,F,F,F,F,F,F,F,F,F,F,F,F,F,F,F,F,F,F,F,F,F] HT_.out ?_
                   refine pv_ 11 (some 132) #[T,T,T,T,T,T,T,T,T,T,T,T,F,F,F,F,F,F,F,F,F,F,F,F,F,F,F,F,F,F,F,F,F,F,F,F,F,F,F,F,F,F,F,F] HT_.out ?_
                   refine pv_ 12 (some 133) #[T,T,T,T,T,T,T,T,T,T,T,T,T,F,F,F,F,F,F,F,F,F,F,F,F,F,F,F,F,F,F,F,F,F,F,F,F,F,F,F,F,F,F,F] HT_.out ?_
                   refine pv_ 13 (some 134) #[T,T,T,T,T,T,T,T,T,T,T,T,T,T,F,F,F,F,F,F,F,F,F,F,F,F,F,F,F,F,F,F,F,F,F,F,F,F,F,F,F,F,F,F] HT_.out ?_
                   refine pv_ 14 (some 135) #[T,T,T,T,T,T,T,T,T,T,T,T,T,T,T,F,F,F,F,F,F,F,F,F,F,F,F,F,F,F,F,F,F,F,F,F,F,F,F,F,F,F,F,F] HT_.out ?_
                   refine pv_ 15 (some 136) #[T,T,T,T,T,T,T,T,T,T,T,T,T,T,T,T,F,F,F,F,F,F,F,F,F,F,F,F,F,F,F,F,F,F,F,F,F,F,F,F,F,F,F,F] HT_.out ?_
                   refine pv_ 16 (some 137) #[T,T,T,T,T,T,T,T,T,T,T,T,T,T,T,T,T,F,F,F,F,F,F,F,F,F,F,F,F,F,F,F,F,F,F,F,F,F,F,F,F,F,F,F] HT_.out ?_
                   refine pv_ 17 (some 138) #[T,T,T,T,T,T,T,T,T,T,T,T,T,T,T,T,T,T,F,F,F,F,F,F,F,F,F,F,F,F,F,F,F,F,F,F,F,F,F,F,F,F,F,F] HT_.out ?_
                   refine tv24_ 18 (some 139) #[T,T,T,T,T,T,T,T,T,T,T,T,T,T,T,T,T,T,T,F,F,F,F,F,F,F,F,F,F,F,F,F,F,F,F,F,F,F,F,F,F,F,F,F] HT_.out HW_.out hHeld ?_
                   refine one_ (i := 19) (N := some 140) #[T,T,T,T,T,T,T,T,T,T,T,T,T,T,T,T,T,T,T,T,F,F,F,F,F,F,F,F,F,F,F,F,F,F,F,F,F,F,F,F,F,F,F,F] rfl rfl (one_of HT_.out (by kernel_rfl)) (by decide) (fun K hK => ?_)
                   refine goes_ Tryz.func16 (by kernel_rfl) rfl #[.slice Ao34 t451.length co34, .int .i64 ((rd_T41 t450 x19_4).f0)] (by rfl) rfl rfl gl_ ?_
                   with_reducible refine (laws_rHas.calls k4 _ _ t451 ((rd_T41 t450 x19_4).f0) false _ ?side1 ?side2 A53.out).mono ?_
                   (case side1 => exact z39_)
                   (case side2 => exact (Kd.R_reads' HO_14.out).2.1)
                   rintro e w' ⟨rfl, ⟨nd, rfl⟩⟩
                   refine ⟨_, rfl, ?_⟩
                   refine hK.out _ _ ⟨hHeld.1, hHeld.2.1, hHeld.2.2.1, hHeld.2.2.2.1, hHeld.2.2.2.2.1, hHeld.2.2.2.2.2.1, hHeld.2.2.2.2.2.2.1, hHeld.2.2.2.2.2.2.2.1, hHeld.2.2.2.2.2.2.2.2.1, hHeld.2.2.2.2.2.2.2.2.2.1, hHeld.2.2.2.2.2.2.2.2.2.2.1, hHeld.2.2.2.2.2.2.2.2.2.2.2.1, hHeld.2.2.2.2.2.2.2.2.2.2.2.2.1, hHeld.2.2.2.2.2.2.2.2.2.2.2.2.2.1, hHeld.2.2.2.2.2.2.2.2.2.2.2.2.2.2.1, hHeld.2.2.2.2.2.2.2.2.2.2.2.2.2.2.2.1, hHeld.2.2.2.2.2.2.2.2.2.2.2.2.2.2.2.2.1, hHeld.2.2.2.2.2.2.2.2.2.2.2.2.2.2.2.2.2.1, hHeld.2.2.2.2.2.2.2.2.2.2.2.2.2.2.2.2.2.2.1, hHeld.2.2.2.2.2.2.2.2.2.2.2.2.2.2.2.2.2.2.2.1, hHeld.2.2.2.2.2.2.2.2.2.2.2.2.2.2.2.2.2.2.2.2.1, hHeld.2.2.2.2.2.2.2.2.2.2.2.2.2.2.2.2.2.2.2.2.2.1, hHeld.2.2.2.2.2.2.2.2.2.2.2.2.2.2.2.2.2.2.2.2.2.2.1, hHeld.2.2.2.2.2.2.2.2.2.2.2.2.2.2.2.2.2.2.2.2.2.2.2⟩ (fun hHeld => ?_)
                   clear hK K
                   refine nm_ (some 140) ?_
                   refine pv_ 20 (some 141) #[T,T,T,T,T,T,T,T,T,T,T,T,T,T,T,T,T,T,T,T,T,F,F,F,F,F,F,F,F,F,F,F,F,F,F,F,F,F,F,F,F,F,F,F] HT_.out ?_
                   refine pv_ 21 (some 142) #[T,T,T,T,T,T,T,T,T,T,T,T,T,T,T,T,T,T,T,T,T,T,F,F,F,F,F,F,F,F,F,F,F,F,F,F,F,F,F,F,F,F,F,F] HT_.out ?_
                   refine pv_ 22 (some 143) #[T,T,T,T,T,T,T,T,T,T,T,T,T,T,T,T,T,T,T,T,T,T,T,F,F,F,F,F,F,F,F,F,F,F,F,F,F,F,F,F,F,F,F,F] HT_.out ?_
                   refine pv_ 23 (some 144) #[T,T,T,T,T,T,T,T,T,T,T,T,T,T,T,T,T,T,T,T,T,T,T,T,F,F,F,F,F,F,F,F,F,F,F,F,F,F,F,F,F,F,F,F] HT_.out ?_
                   refine pv_ 24 (some 145) #[T,T,T,T,T,T,T,T,T,T,T,T,T,T,T,T,T,T,T,T,T,T,T,T,T,F,F,F,F,F,F,F,F,F,F,F,F,F,F,F,F,F,F,F] HT_.out ?_
                   refine pv_ 25 (some 146) #[T,T,T,T,T,T,T,T,T,T,T,T,T,T,T,T,T,T,T,T,T,T,T,T,T,T,F,F,F,F,F,F,F,F,F,F,F,F,F,F,F,F,F,F] HT_.out ?_
                   refine pv_ 27 (some 148) #[T,T,T,T,T,T,T,T,T,T,T,T,T,T,T,T,T,T,T,T,T,T,T,T,T,T,F,T,F,F,F,F,F,F,F,F,F,F,F,F,F,F,F,F] HT_.out ?_
                   refine pv_ 28 (some 149) #[T,T,T,T,T,T,T,T,T,T,T,T,T,T,T,T,T,T,T,T,T,T,T,T,T,T,F,T,T,F,F,F,F,F,F,F,F,F,F,F,F,F,F,F] HT_.out ?_
                   refine pv_ 29 (some 150) #[T,T,T,T,T,T,T,T,T,T,T,T,T,T,T,T,T,T,T,T,T,T,T,T,T,T,F,T,T,T,F,F,F,F,F,F,F,F,F,F,F,F,F,F] HT_.out ?_
                   refine pv_ 30 (some 151) #[T,T,T,T,T,T,T,T,T,T,T,T,T,T,T,T,T,T,T,T,T,T,T,T,T,T,F,T,T,T,T,F,F,F,F,F,F,F,F,F,F,F,F,F] HT_.out ?_
                   refine tv24_ 26 (some 147) #[T,T,T,T,T,T,T,T,T,T,T,T,T,T,T,T,T,T,T,T,T,T,T,T,T,T,T,T,T,T,T,F,F,F,F,F,F,F,F,F,F,F,F,F] HT_.out HW_.out hHeld ?_
                   refine tv24_ 31 (some 152) #[T,T,T,T,T,T,T,T,T,T,T,T,T,T,T,T,T,T,T,T,T,T,T,T,T,T,T,T,T,T,T,T,F,F,F,F,F,F,F,F,F,F,F,F] HT_.out HW_.out hHeld ?_
                   refine pv_ 32 (some 153) #[T,T,T,T,T,T,T,T,T,T,T,T,T,T,T,T,T,T,T,T,T,T,T,T,T,T,T,T,T,T,T,T,T,F,F,F,F,F,F,F,F,F,F,F] HT_.out ?_
                   refine pv_ 33 (some 154) #[T,T,T,T,T,T,T,T,T,T,T,T,T,T,T,T,T,T,T,T,T,T,T,T,T,T,T,T,T,T,T,T,T,T,F,F,F,F,F,F,F,F,F,F] HT_.out ?_
                   refine pv_ 34 (some 155) #[T,T,T,T,T,T,T,T,T,T,T,T,T,T,T,T,T,T,T,T,T,T,T,T,T,T,T,T,T,T,T,T,T,T,T,F,F,F,F,F,F,F,F,F] HT_.out ?_
                   refine pv_ 35 (some 156) #[T,T,T,T,T,T,T,T,T,T,T,T,T,T,T,T,T,T,T,T,T,T,T,T,T,T,T,T,T,T,T,T,T,T,T,T,F,F,F,F,F,F,F,F] HT_.out ?_
                   refine pv_ 36 (some 157) #[T,T,T,T,T,T,T,T,T,T,T,T,T,T,T,T,T,T,T,T,T,T,T,T,T,T,T,T,T,T,T,T,T,T,T,T,T,F,F,F,F,F,F,F] HT_.out ?_
                   refine pv_ 37 (some 158) #[T,T,T,T,T,T,T,T,T,T,T,T,T,T,T,T,T,T,T,T,T,T,T,T,T,T,T,T,T,T,T,T,T,T,T,T,T,T,F,F,F,F,F,F] HT_.out ?_
                   refine pv_ 38 (some 159) #[T,T,T,T,T,T,T,T,T,T,T,T,T,T,T,T,T,T,T,T,T,T,T,T,T,T,T,T,T,T,T,T,T,T,T,T,T,T,T,F,F,F,F,F] HT_.out ?_
                   refine tv24_ 39 (some 160) #[T,T,T,T,T,T,T,T,T,T,T,T,T,T,T,T,T,T,T,T,T,T,T,T,T,T,T,T,T,T,T,T,T,T,T,T,T,T,T,T,F,F,F,F] HT_.out HW_.out hHeld ?_
                   refine one_ (i := 40) (N := some 161) #[T,T,T,T,T,T,T,T,T,T,T,T,T,T,T,T,T,T,T,T,T,T,T,T,T,T,T,T,T,T,T,T,T,T,T,T,T,T,T,T,T,F,F,F] rfl rfl (one_of HT_.out (by kernel_rfl)) (by decide) (fun K hK => ?_)
                   refine goes_ Tryz.func16 (by kernel_rfl) rfl #[.slice Ao34 t451.length co34, .int .i64 ((rd_T41 t450 x19_4).f0)] (by rfl) rfl rfl gl_ ?_
                   with_reducible refine (laws_rHas.calls k4 _ _ t451 ((rd_T41 t450 x19_4).f0) true _ ?side1 ?side2 A58.out).mono ?_
                   (case side1 => exact z39_)
                   (case side2 => exact (Kd.R_reads' HO_14.out).2.1)
                   rintro e w' ⟨rfl, ⟨nd, rfl⟩⟩
                   refine ⟨_, rfl, ?_⟩
                   refine hK.out _ _ ⟨hHeld.1, hHeld.2.1, hHeld.2.2.1, hHeld.2.2.2.1, hHeld.2.2.2.2.1, hHeld.2.2.2.2.2.1, hHeld.2.2.2.2.2.2.1, hHeld.2.2.2.2.2.2.2.1, hHeld.2.2.2.2.2.2.2.2.1, hHeld.2.2.2.2.2.2.2.2.2.1, hHeld.2.2.2.2.2.2.2.2.2.2.1, hHeld.2.2.2.2.2.2.2.2.2.2.2.1, hHeld.2.2.2.2.2.2.2.2.2.2.2.2.1, hHeld.2.2.2.2.2.2.2.2.2.2.2.2.2.1, hHeld.2.2.2.2.2.2.2.2.2.2.2.2.2.2.1, hHeld.2.2.2.2.2.2.2.2.2.2.2.2.2.2.2.1, hHeld.2.2.2.2.2.2.2.2.2.2.2.2.2.2.2.2.1, hHeld.2.2.2.2.2.2.2.2.2.2.2.2.2.2.2.2.2.1, hHeld.2.2.2.2.2.2.2.2.2.2.2.2.2.2.2.2.2.2.1, hHeld.2.2.2.2.2.2.2.2.2.2.2.2.2.2.2.2.2.2.2.1, hHeld.2.2.2.2.2.2.2.2.2.2.2.2.2.2.2.2.2.2.2.2.1, hHeld.2.2.2.2.2.2.2.2.2.2.2.2.2.2.2.2.2.2.2.2.2.1, hHeld.2.2.2.2.2.2.2.2.2.2.2.2.2.2.2.2.2.2.2.2.2.2.1, hHeld.2.2.2.2.2.2.2.2.2.2.2.2.2.2.2.2.2.2.2.2.2.2.2⟩ (fun hHeld => ?_)
                   clear hK K
                   refine nm_ (some 161) ?_
                   refine pv_ 41 (some 162) #[T,T,T,T,T,T,T,T,T,T,T,T,T,T,T,T,T,T,T,T,T,T,T,T,T,T,T,T,T,T,T,T,T,T,T,T,T,T,T,T,T,T,F,F] HT_.out ?_
                   refine pv_ 42 (some 163) #[T,T,T,T,T,T,T,T,T,T,T,T,T,T,T,T,T,T,T,T,T,T,T,T,T,T,T,T,T,T,T,T,T,T,T,T,T,T,T,T,T,T,T,F] HT_.out ?_
                   refine pv_ 43 (some 164) #[T,T,T,T,T,T,T,T,T,T,T,T,T,T,T,T,T,T,T,T,T,T,T,T,T,T,T,T,T,T,T,T,T,T,T,T,T,T,T,T,T,T,T,T] HT_.out ?_
                   refine done_ (done_of HT_.out (by kernel_rfl)) ?_
                   try go_wp2
                   go_roundg k4
                   case measure => have := HJ6.out; have := HJ16.out; have := HJ30.out; have := HK4.out; omega
                   case rel => exact ⟨(wrap64 (x19_4 + 1)), z2_, H', ⟨by have := HJ6.out; have := HJ16.out; have := HJ30.out; have := HK4.out; omega⟩, ⟨z30_⟩, ⟨z31_⟩, ⟨z32_⟩, ⟨z5_⟩⟩
                  ·replace c59 := Bool.eq_false_iff.mpr c59
                   subst c59
                   have H1 : (none) = some r := by rw [if_neg (show ¬ (false = true) by decide)] at H; exact H
                   clear H; have H := H1; clear H1
                   exact absurd H (by simp)
              ·rw [if_neg c44] at H
               exact absurd H (by simp)
             ·rw [if_neg c43] at H
              exact absurd H (by simp)
            ·rw [if_neg c42] at H
             have c42b0 : decide (x19_4 < (t456.length : Int)) = false := decide_eq_false c42
             clear c42; replace H := Option.bind_eq_some_iff.mp H; obtain ⟨⟨t477, t478⟩, A620, H⟩ := H
             replace H : ((spec_IsTeam.f k4 t450 t451).bind fun bt479 => (if (t477 != bt479.1) = true then (laws_FnTeams.j4 k4 l0 true) else (if (t478 != bt479.2) = true then (laws_FnTeams.j4 k4 l0 true) else (if t457 = true then (laws_FnTeams.j4 k4 l0 (!t477)) else (laws_FnTeams.j4 k4 l0 false))))) = some r := H
             have A62 := Aside0.mk A620; clear A620; replace H := Option.bind_eq_some_iff.mp H; obtain ⟨⟨t479, t480⟩, A630, H⟩ := H
             replace H : (if (t477 != t479) = true then (laws_FnTeams.j4 k4 l0 true) else (if (t478 != t480) = true then (laws_FnTeams.j4 k4 l0 true) else (if t457 = true then (laws_FnTeams.j4 k4 l0 (!t477)) else (laws_FnTeams.j4 k4 l0 false)))) = some r := H
             have A63 := Aside0.mk A630; clear A630; have HC64 := Aside0.mk H; clear H
             obtain ⟨Ao65, co65, eo65⟩ := Kd.R_slice HO_15.out
             subst eo65
             go_upto_region 25 with (first | ((with_reducible refine gate_callee (f := 10) rfl ?_); refine goesL_ (some 168) rfl rfl Tryz.func10 (by kernel_rfl) rfl #[.slice Ao33 t450.length co33, .slice Ao34 t451.length co34] rfl gl_ ?_; (with_reducible refine (impl_IsTeam.calls k4 _ _ t450 _ _ t451 t477 t478 _ ?side1 ?side2 ?side3 ?side4 A62.out).mono ?_); (case side1 => repeat (first | exact (Kd.R_reads' HO_13.out).2.2 | (with_reducible refine Kd.C_alloc ?_ _) | (with_reducible refine Kd.C_drewN ?_ _) | (with_reducible refine Kd.C_drew ?_))); (case side2 => exact (Kd.R_reads' HO_13.out).2.1); (case side3 => exact z39_); (case side4 => exact (Kd.R_reads' HO_14.out).2.1); rintro e w66 ⟨rfl, hb⟩; refine ⟨_, rfl, ?_⟩; have n0_ := Aside0.mk (Kd.R_below (kr_ HO_13) hb); have n1_ := Aside0.mk (Kd.R_below (kr_ HO_14) hb); have n2_ := Aside0.mk (Kd.R_below (kr_ HO_15) hb); have n3_ := Aside0.mk (below_step bx_ hb); clear HO_13; clear HO_14; clear HO_15; clear HB; have HO_13 := n0_; have HO_14 := n1_; have HO_15 := n2_; have HB := n3_; clear n0_ n1_ n2_ n3_; (try clear hb); (try clear hk)) | ((with_reducible refine gate_callee (f := 17) rfl ?_); refine goesL_ (some 174) rfl rfl Tryz.func17 (by kernel_rfl) rfl #[.slice Ao33 t450.length co33, .slice Ao34 t451.length co34] rfl gl_ ?_; (with_reducible refine (spec_IsTeam.calls k4 _ _ t450 _ _ t451 t479 t480 _ ?side1 ?side2 ?side3 ?side4 A63.out).mono ?_); (case side1 => repeat (first | exact (Kd.R_reads' HO_13.out).2.2 | (with_reducible refine Kd.C_alloc ?_ _) | (with_reducible refine Kd.C_drewN ?_ _) | (with_reducible refine Kd.C_drew ?_))); (case side2 => exact (Kd.R_reads' HO_13.out).2.1); (case side3 => exact z39_); (case side4 => exact (Kd.R_reads' HO_14.out).2.1); rintro e w67 ⟨rfl, hb⟩; refine ⟨_, rfl, ?_⟩; have n0_ := Aside0.mk (Kd.R_below (kr_ HO_13) hb); have n1_ := Aside0.mk (Kd.R_below (kr_ HO_14) hb); have n2_ := Aside0.mk (Kd.R_below (kr_ HO_15) hb); have n3_ := Aside0.mk (below_step bx_ hb); clear HO_13; clear HO_14; clear HO_15; clear HB; have HO_13 := n0_; have HO_14 := n1_; have HO_15 := n2_; have HB := n3_; clear n0_ n1_ n2_ n3_; (try clear hb); (try clear hk)))
             (try simp only [Act.put, zA, zB, zC])
             go_cut [191] (fun v191 wc => ∃ (kq : Nat) (x191_63 : Bool), v191 = .bool x191_63 ∧ Aside0 (laws_FnTeams.j4 kq l0 x191_63 = some r) ∧ Aside0 (kq ≤ k4) ∧ Aside0 (Below w.heap.size w wc))
             case first => as_aux_lemma =>
              have H := HC64.out; clear HC64
              by_cases c68 : (t477 != t479) = true
              ·rw [if_pos c68] at H
               have c68b0 : (t477 != t479) = true := c68
               (try (have c68b1 : decide (t477 = t479) = false := by simpa using c68))
               (try (have c68b2 : (t477 == t479) = false := by simpa using c68))
               (try (have c68b3 : ¬ (t477 = t479) := by simpa using c68))
               clear c68
               (first | rw [c68b0] | (simp only [i64_w, i32_w]; rw [c68b0]) | skip)
               have H' := Aside0.mk H
               clear H
               go_wp2
               go_meet
               case rel => exact ⟨_, (true), z2_, H', ⟨by have := HJ6.out; have := HJ16.out; have := HJ30.out; have := HK4.out; first | omega | exact Nat.le_refl _⟩, ⟨z5_⟩⟩
              ·rw [if_neg c68] at H
               have c68b0 : (t477 != t479) = false := by simpa using c68
               (try (have c68b1 : decide (t477 = t479) = true := by simpa using c68))
               (try (have c68b2 : (t477 == t479) = true := by simpa using c68))
               clear c68
               (first | rw [c68b0] | (simp only [i64_w, i32_w]; rw [c68b0]) | skip)
               by_cases c69 : (t478 != t480) = true
               ·rw [if_pos c69] at H
                have c69b0 : (t478 != t480) = true := c69
                (try (have c69b1 : decide (t478 = t480) = false := by simpa using c69))
                (try (have c69b2 : (t478 == t480) = false := by simpa using c69))
                (try (have c69b3 : ¬ (t478 = t480) := by simpa using c69))
                clear c69
                have H' := Aside0.mk H
                clear H
                go_wp2
                go_meet
                case rel => exact ⟨_, (true), z2_, H', ⟨by have := HJ6.out; have := HJ16.out; have := HJ30.out; have := HK4.out; first | omega | exact Nat.le_refl _⟩, ⟨z5_⟩⟩
               ·rw [if_neg c69] at H
                have c69b0 : (t478 != t480) = false := by simpa using c69
                (try (have c69b1 : decide (t478 = t480) = true := by simpa using c69))
                (try (have c69b2 : (t478 == t480) = true := by simpa using c69))
                clear c69
                by_cases c70 : t457 = true
                ·subst c70
                 have H1 : (laws_FnTeams.j4 k4 l0 (!t477)) = some r := by rw [if_pos rfl] at H; exact H
                 clear H; have H := H1; clear H1
                 have H' := Aside0.mk H
                 clear H
                 go_wp2
                 go_meet
                 case rel => exact ⟨_, (!t477), z2_, H', ⟨by have := HJ6.out; have := HJ16.out; have := HJ30.out; have := HK4.out; first | omega | exact Nat.le_refl _⟩, ⟨z5_⟩⟩
                ·replace c70 := Bool.eq_false_iff.mpr c70
                 subst c70
                 have H1 : (laws_FnTeams.j4 k4 l0 false) = some r := by rw [if_neg (show ¬ (false = true) by decide)] at H; exact H
                 clear H; have H := H1; clear H1
                 have H' := Aside0.mk H
                 clear H
                 go_wp2
                 go_meet
                 case rel => exact ⟨_, (false), z2_, H', ⟨by have := HJ6.out; have := HJ16.out; have := HJ30.out; have := HK4.out; first | omega | exact Nat.le_refl _⟩, ⟨z5_⟩⟩
             case rest => as_aux_lemma =>
              clear HC64; (try clear c16); (try clear c42); (try clear c42b0); (try clear c43); (try clear c44); (try clear c55); (try clear c55b0); (try clear c55b1); (try clear c59); (try clear c68); (try clear c68b0); (try clear c68b1); (try clear c68b2); (try clear c69); (try clear c69b0); (try clear c69b1); (try clear c69b2); (try clear c70); (try clear hx465_0); (try clear hx465_1); (try clear hx465_2); (try clear hx465_3); (try clear hx466_0); (try clear hx466_1); (try clear hx466_2); (try clear hx466_3); (try clear hx471_0); (try clear hx471_1); (try clear hx471_2); (try clear hx471_3); (try clear hx473_0); (try clear hx473_1); (try clear hx473_2); (try clear hx473_3); (try clear hx474_0); (try clear hx474_1); (try clear hx474_2); (try clear hx474_3); (try clear hx475_0); (try clear hx475_1); (try clear hx475_2); (try clear hx475_3); (try clear p465); (try clear p466); (try clear p471); (try clear p473); (try clear p474); (try clear p475); (try clear q465); (try clear q466); (try clear q471); (try clear q473); (try clear q474); (try clear q475); obtain ⟨kq, x191_63, rfl, HA, HJ63, HB⟩ := hcut
              cases kq with
              | zero => exact absurd HA.out (by simp [laws_FnTeams.j4])
              | succ kj63 =>
               have H := HA.out; clear HA
               simp only [laws_FnTeams.j4] at H
               by_cases c71 : x191_63 = true
               ·subst c71
                have H1 : (none) = some r := by rw [if_pos rfl] at H; exact H
                clear H; have H := H1; clear H1
                exact absurd H (by simp)
               ·replace c71 := Bool.eq_false_iff.mpr c71
                subst c71
                have H1 : ((spec_DrawMissingSkills.f kj63 l0).bind fun bt481 => ((impl_MissingSkills.f kj63 bt481.1 bt481.2.1 bt481.2.2).bind fun bt488 => ((spec_MissingSkills.f kj63 bt481.1 bt481.2.1 bt481.2.2).bind fun bt490 => (if bt488.1 = bt490.1 then (laws_FnTeams.j5 kj63 bt481.1 bt481.2.1 bt481.2.2 bt488.1 bt488.2 (bt488.2 != bt490.2)) else (laws_FnTeams.j5 kj63 bt481.1 bt481.2.1 bt481.2.2 bt488.1 bt488.2 true))))) = some r := by rw [if_neg (show ¬ (false = true) by decide)] at H; exact H
                clear H; have H := H1; clear H1; replace H := Option.bind_eq_some_iff.mp H; obtain ⟨⟨t481, t482, t483⟩, A720, H⟩ := H
                replace H : ((impl_MissingSkills.f kj63 t481 t482 t483).bind fun bt488 => ((spec_MissingSkills.f kj63 t481 t482 t483).bind fun bt490 => (if bt488.1 = bt490.1 then (laws_FnTeams.j5 kj63 t481 t482 t483 bt488.1 bt488.2 (bt488.2 != bt490.2)) else (laws_FnTeams.j5 kj63 t481 t482 t483 bt488.1 bt488.2 true)))) = some r := H
                have A72 := Aside0.mk A720; clear A720; replace H := Option.bind_eq_some_iff.mp H; obtain ⟨⟨t488, t489⟩, A730, H⟩ := H
                replace H : ((spec_MissingSkills.f kj63 t481 t482 t483).bind fun bt490 => (if t488 = bt490.1 then (laws_FnTeams.j5 kj63 t481 t482 t483 t488 t489 (t489 != bt490.2)) else (laws_FnTeams.j5 kj63 t481 t482 t483 t488 t489 true))) = some r := H
                have A73 := Aside0.mk A730; clear A730; replace H := Option.bind_eq_some_iff.mp H; obtain ⟨⟨t490, t491⟩, A740, H⟩ := H
                replace H : (if t488 = t490 then (laws_FnTeams.j5 kj63 t481 t482 t483 t488 t489 (t489 != t491)) else (laws_FnTeams.j5 kj63 t481 t482 t483 t488 t489 true)) = some r := H
                have A74 := Aside0.mk A740; clear A740; have HC75 := Aside0.mk H; clear H
                go_upto_region 30 with (first | ((with_reducible refine gate_callee (f := 18) rfl ?_); refine goesL_ (some 194) rfl rfl Tryz.func18 (by kernel_rfl) rfl #[.slice A0 l0.length c0] rfl gl_ ?_; (with_reducible refine (spec_DrawMissingSkills.calls kj63 _ _ l0 t481 t482 t483 _ ?side1 ?side2 A72.out).mono ?_); (case side1 => exact z14_); (case side2 => exact HC0.out); rintro e w76 ⟨v484, v486, rfl, ho0, ho1, hb⟩; refine ⟨_, rfl, ?_⟩; have n0_ := Aside0.mk (Kd.R_lower ho0 (below_size bx_)); have n1_ := Aside0.mk (Kd.R_lower ho1 (below_size bx_)); have n2_ := Aside0.mk (below_step bx_ hb); clear HB; have HO485 := n0_; have HO487 := n1_; have HB := n2_; clear n0_ n1_ n2_; (try clear hb); (try clear hk); (try clear ho0); (try clear ho1); obtain ⟨Ao77, co77, eo77⟩ := Kd.R_slice HO485.out; subst eo77; obtain ⟨Ao78, co78, eo78⟩ := Kd.R_slice HO487.out; subst eo78) | ((with_reducible refine gate_callee (f := 11) rfl ?_); refine goesL_ (some 202) rfl rfl Tryz.func11 (by kernel_rfl) rfl #[.slice Ao77 t481.length co77, .slice Ao78 t482.length co78, .int .i64 t483] rfl gl_ ?_; (with_reducible refine (impl_MissingSkills.calls kj63 _ _ t481 _ _ t482 t483 t488 t489 _ ?side1 ?side2 ?side3 ?side4 A73.out).mono ?_); (case side1 => repeat (first | exact (Kd.R_reads' HO485.out).2.2 | (with_reducible refine Kd.C_alloc ?_ _) | (with_reducible refine Kd.C_drewN ?_ _) | (with_reducible refine Kd.C_drew ?_))); (case side2 => exact (Kd.R_reads' HO485.out).2.1); (case side3 => repeat (first | exact (Kd.R_reads' HO487.out).2.2 | (with_reducible refine Kd.C_alloc ?_ _) | (with_reducible refine Kd.C_drewN ?_ _) | (with_reducible refine Kd.C_drew ?_))); (case side4 => exact (Kd.R_reads' HO487.out).2.1); rintro e w79 ⟨rfl, hb⟩; refine ⟨_, rfl, ?_⟩; have n0_ := Aside0.mk (Kd.R_below (kr_ HO485) hb); have n1_ := Aside0.mk (Kd.R_below (kr_ HO487) hb); have n2_ := Aside0.mk (below_step bx_ hb); clear HO485; clear HO487; clear HB; have HO485 := n0_; have HO487 := n1_; have HB := n2_; clear n0_ n1_ n2_; (try clear hb); (try clear hk)) | ((with_reducible refine gate_callee (f := 19) rfl ?_); refine goesL_ (some 209) rfl rfl Tryz.func19 (by kernel_rfl) rfl #[.slice Ao77 t481.length co77, .slice Ao78 t482.length co78, .int .i64 t483] rfl gl_ ?_; (with_reducible refine (spec_MissingSkills.calls kj63 _ _ t481 _ _ t482 t483 t490 t491 _ ?side1 ?side2 ?side3 ?side4 A74.out).mono ?_); (case side1 => repeat (first | exact (Kd.R_reads' HO485.out).2.2 | (with_reducible refine Kd.C_alloc ?_ _) | (with_reducible refine Kd.C_drewN ?_ _) | (with_reducible refine Kd.C_drew ?_))); (case side2 => exact (Kd.R_reads' HO485.out).2.1); (case side3 => repeat (first | exact (Kd.R_reads' HO487.out).2.2 | (with_reducible refine Kd.C_alloc ?_ _) | (with_reducible refine Kd.C_drewN ?_ _) | (with_reducible refine Kd.C_drew ?_))); (case side4 => exact (Kd.R_reads' HO487.out).2.1); rintro e w80 ⟨rfl, hb⟩; refine ⟨_, rfl, ?_⟩; have n0_ := Aside0.mk (Kd.R_below (kr_ HO485) hb); have n1_ := Aside0.mk (Kd.R_below (kr_ HO487) hb); have n2_ := Aside0.mk (below_step bx_ hb); clear HO485; clear HO487; clear HB; have HO485 := n0_; have HO487 := n1_; have HB := n2_; clear n0_ n1_ n2_; (try clear hb); (try clear hk)))
                (try simp only [Act.put, zA, zB, zC])
                go_cut [219] (fun v219 wc => ∃ (kq : Nat) (x219_74 : Bool), v219 = .bool x219_74 ∧ Aside0 (laws_FnTeams.j5 kq t481 t482 t483 t488 t489 x219_74 = some r) ∧ Aside0 (kq ≤ kj63) ∧ Aside0 (Kd.R k41 41 wc w.heap.size (fun _ => True) (.slice Ao77 t481.length co77) t481) ∧ Aside0 (Kd.R (Kd.int .i64) 3 wc w.heap.size (fun _ => True) (.slice Ao78 t482.length co78) t482) ∧ Aside0 (Below w.heap.size w wc))
                case first => as_aux_lemma =>
                 have H := HC75.out; clear HC75
                 by_cases c81 : t488 = t490
                 ·rw [if_pos c81] at H
                  have c81b0 : (t488 == t490) = true := beq_iff_eq.mpr c81
                  have c81b1 : (t488 != t490) = false := bne_eq_false_iff_eq.mpr c81
                  clear c81
                  (first | rw [c81b0] | (simp only [i64_w, i32_w]; rw [c81b0]) | skip)
                  have H' := Aside0.mk H
                  clear H
                  go_wp2
                  go_meet
                  case rel => exact ⟨_, ((t489 != t491)), z2_, H', ⟨by have := HJ6.out; have := HJ16.out; have := HJ30.out; have := HK4.out; have := HJ63.out; first | omega | exact Nat.le_refl _⟩, ⟨by (with_reducible repeat (first | apply Kd.R_alloc | apply Kd.R_drewN | apply Kd.R_drew)); exact HO485.out⟩, ⟨by (with_reducible repeat (first | apply Kd.R_alloc | apply Kd.R_drewN | apply Kd.R_drew)); exact HO487.out⟩, ⟨z5_⟩⟩
                 ·rw [if_neg c81] at H
                  have c81b0 : (t488 == t490) = false := beq_eq_false_iff_ne.mpr c81
                  have c81b1 : (t488 != t490) = true := bne_iff_ne.mpr c81
                  (first | rw [c81b0] | (simp only [i64_w, i32_w]; rw [c81b0]) | skip)
                  have H' := Aside0.mk H
                  clear H
                  go_wp2
                  go_meet
                  case rel => exact ⟨_, (true), z2_, H', ⟨by have := HJ6.out; have := HJ16.out; have := HJ30.out; have := HK4.out; have := HJ63.out; first | omega | exact Nat.le_refl _⟩, ⟨by (with_reducible repeat (first | apply Kd.R_alloc | apply Kd.R_drewN | apply Kd.R_drew)); exact HO485.out⟩, ⟨by (with_reducible repeat (first | apply Kd.R_alloc | apply Kd.R_drewN | apply Kd.R_drew)); exact HO487.out⟩, ⟨z5_⟩⟩
                case rest => as_aux_lemma =>
                 clear HC75; (try clear c16); (try clear c18); (try clear c42); (try clear c42b0); (try clear c43); (try clear c44); (try clear c55); (try clear c55b0); (try clear c55b1); (try clear c59); (try clear c68); (try clear c68b0); (try clear c68b1); (try clear c68b2); (try clear c69); (try clear c69b0); (try clear c69b1); (try clear c69b2); (try clear c70); (try clear c71); (try clear c81); (try clear c81b0); (try clear c81b1); (try clear hx465_0); (try clear hx465_1); (try clear hx465_2); (try clear hx465_3); (try clear hx466_0); (try clear hx466_1); (try clear hx466_2); (try clear hx466_3); (try clear hx471_0); (try clear hx471_1); (try clear hx471_2); (try clear hx471_3); (try clear hx473_0); (try clear hx473_1); (try clear hx473_2); (try clear hx473_3); (try clear hx474_0); (try clear hx474_1); (try clear hx474_2); (try clear hx474_3); (try clear hx475_0); (try clear hx475_1); (try clear hx475_2); (try clear hx475_3); (try clear p465); (try clear p466); (try clear p471); (try clear p473); (try clear p474); (try clear p475); (try clear q465); (try clear q466); (try clear q471); (try clear q473); (try clear q474); (try clear q475); obtain ⟨kq, x219_74, rfl, HA, HJ74, HO_24, HO_25, HB⟩ := hcut
                 cases kq with
                 | zero => exact absurd HA.out (by simp [laws_FnTeams.j5])
                 | succ kj74 =>
                  have H := HA.out; clear HA
                  simp only [laws_FnTeams.j5] at H
                  by_cases c82 : x219_74 = true
                  ·subst c82
                   have H1 : (none) = some r := by rw [if_pos rfl] at H; exact H
                   clear H; have H := H1; clear H1
                   exact absurd H (by simp)
                  ·replace c82 := Bool.eq_false_iff.mpr c82
                   subst c82
                   have H1 : (if t489 = true then ((impl_SkillsOf.f kj74 t481 t482).bind fun bt492 => (if bt492.2 = true then (if (Go.bits .and .i64 t488 bt492.1) = 0 then (laws_FnTeams.j6 kj74 t481 ((Go.bits .or .i64 t488 (Go.bits .and .i64 bt492.1 t483)) != t483)) else (laws_FnTeams.j6 kj74 t481 true)) else (laws_FnTeams.j6 kj74 t481 true))) else ((impl_ArePeople.f kj74 t481).bind fun t496 => ((spec_ArePeople.f kj74 t481).bind fun t497 => (some (t496 == t497))))) = some r := by rw [if_neg (show ¬ (false = true) by decide)] at H; exact H
                   clear H; have H := H1; clear H1
                   by_cases c83 : t489 = true
                   ·subst c83
                    have H1 : ((impl_SkillsOf.f kj74 t481 t482).bind fun bt492 => (if bt492.2 = true then (if (Go.bits .and .i64 t488 bt492.1) = 0 then (laws_FnTeams.j6 kj74 t481 ((Go.bits .or .i64 t488 (Go.bits .and .i64 bt492.1 t483)) != t483)) else (laws_FnTeams.j6 kj74 t481 true)) else (laws_FnTeams.j6 kj74 t481 true))) = some r := by rw [if_pos rfl] at H; exact H
                    clear H; have H := H1; clear H1; replace H := Option.bind_eq_some_iff.mp H; obtain ⟨⟨t492, t493⟩, A840, H⟩ := H
                    replace H : (if t493 = true then (if (Go.bits .and .i64 t488 t492) = 0 then (laws_FnTeams.j6 kj74 t481 ((Go.bits .or .i64 t488 (Go.bits .and .i64 t492 t483)) != t483)) else (laws_FnTeams.j6 kj74 t481 true)) else (laws_FnTeams.j6 kj74 t481 true)) = some r := H
                    have A84 := Aside0.mk A840; clear A840; have HC85 := Aside0.mk H; clear H
                    go_upto_region 34 with (first | ((with_reducible refine gate_callee (f := 20) rfl ?_); refine goesL_ (some 224) rfl rfl Tryz.func20 (by kernel_rfl) rfl #[.slice Ao77 t481.length co77, .slice Ao78 t482.length co78] rfl gl_ ?_; (with_reducible refine (impl_SkillsOf.calls kj74 _ _ t481 _ _ t482 t492 t493 _ ?side1 ?side2 ?side3 ?side4 A84.out).mono ?_); (case side1 => exact z47_); (case side2 => exact (Kd.R_reads' HO_24.out).2.1); (case side3 => repeat (first | exact (Kd.R_reads' HO_25.out).2.2 | (with_reducible refine Kd.C_alloc ?_ _) | (with_reducible refine Kd.C_drewN ?_ _) | (with_reducible refine Kd.C_drew ?_))); (case side4 => exact (Kd.R_reads' HO_25.out).2.1); rintro e w86 ⟨rfl, hb⟩; refine ⟨_, rfl, ?_⟩; have n0_ := Aside0.mk (Kd.R_below (kr_ HO_24) hb); have n1_ := Aside0.mk (Kd.R_below (kr_ HO_25) hb); have n2_ := Aside0.mk (below_step bx_ hb); clear HO_24; clear HO_25; clear HB; have HO_24 := n0_; have HO_25 := n1_; have HB := n2_; clear n0_ n1_ n2_; (try clear hb); (try clear hk)))
                    (try simp only [Act.put, zA, zB, zC])
                    go_cut [243] (fun v243 wc => ∃ (kq : Nat) (x243_84 : Bool), v243 = .bool x243_84 ∧ Aside0 (laws_FnTeams.j6 kq t481 x243_84 = some r) ∧ Aside0 (kq ≤ kj74) ∧ Aside0 (Kd.R k41 41 wc w.heap.size (fun _ => True) (.slice Ao77 t481.length co77) t481) ∧ Aside0 (Below w.heap.size w wc))
                    case first => as_aux_lemma =>
                     have H := HC85.out; clear HC85
                     by_cases c87 : t493 = true
                     ·subst c87
                      have H1 : (if (Go.bits .and .i64 t488 t492) = 0 then (laws_FnTeams.j6 kj74 t481 ((Go.bits .or .i64 t488 (Go.bits .and .i64 t492 t483)) != t483)) else (laws_FnTeams.j6 kj74 t481 true)) = some r := by rw [if_pos rfl] at H; exact H
                      clear H; have H := H1; clear H1
                      by_cases c88 : (Go.bits .and .i64 t488 t492) = 0
                      ·rw [if_pos c88] at H
                       have c88b0 : ((Go.bits .and .i64 t488 t492) == 0) = true := beq_iff_eq.mpr c88
                       have c88b1 : ((Go.bits .and .i64 t488 t492) != 0) = false := bne_eq_false_iff_eq.mpr c88
                       clear c88
                       (first | rw [c88b0] | (simp only [i64_w, i32_w]; rw [c88b0]) | skip)
                       have H' := Aside0.mk H
                       clear H
                       go_wp2
                       go_meet
                       case rel => exact ⟨_, (((Go.bits .or .i64 t488 (Go.bits .and .i64 t492 t483)) != t483)), z2_, H', ⟨by have := HJ6.out; have := HJ16.out; have := HJ30.out; have := HK4.out; have := HJ63.out; have := HJ74.out; first | omega | exact Nat.le_refl _⟩, ⟨z46_⟩, ⟨z5_⟩⟩
                      ·rw [if_neg c88] at H
                       have c88b0 : ((Go.bits .and .i64 t488 t492) == 0) = false := beq_eq_false_iff_ne.mpr c88
                       have c88b1 : ((Go.bits .and .i64 t488 t492) != 0) = true := bne_iff_ne.mpr c88
                       (first | rw [c88b0] | (simp only [i64_w, i32_w]; rw [c88b0]) | skip)
                       have H' := Aside0.mk H
                       clear H
                       go_wp2
                       go_meet
                       case rel => exact ⟨_, (true), z2_, H', ⟨by have := HJ6.out; have := HJ16.out; have := HJ30.out; have := HK4.out; have := HJ63.out; have := HJ74.out; first | omega | exact Nat.le_refl _⟩, ⟨z46_⟩, ⟨z5_⟩⟩
                     ·replace c87 := Bool.eq_false_iff.mpr c87
                      subst c87
                      have H1 : (laws_FnTeams.j6 kj74 t481 true) = some r := by rw [if_neg (show ¬ (false = true) by decide)] at H; exact H
                      clear H; have H := H1; clear H1
                      have H' := Aside0.mk H
                      clear H
                      go_wp2
                      go_meet
                      case rel => exact ⟨_, (true), z2_, H', ⟨by have := HJ6.out; have := HJ16.out; have := HJ30.out; have := HK4.out; have := HJ63.out; have := HJ74.out; first | omega | exact Nat.le_refl _⟩, ⟨z46_⟩, ⟨z5_⟩⟩
                    case rest => as_aux_lemma =>
                     clear HC85; (try clear c16); (try clear c18); (try clear c42); (try clear c42b0); (try clear c43); (try clear c44); (try clear c55); (try clear c55b0); (try clear c55b1); (try clear c59); (try clear c68); (try clear c68b0); (try clear c68b1); (try clear c68b2); (try clear c69); (try clear c69b0); (try clear c69b1); (try clear c69b2); (try clear c70); (try clear c71); (try clear c81); (try clear c81b0); (try clear c81b1); (try clear c82); (try clear c83); (try clear c87); (try clear c88); (try clear c88b0); (try clear c88b1); (try clear hx465_0); (try clear hx465_1); (try clear hx465_2); (try clear hx465_3); (try clear hx466_0); (try clear hx466_1); (try clear hx466_2); (try clear hx466_3); (try clear hx471_0); (try clear hx471_1); (try clear hx471_2); (try clear hx471_3); (try clear hx473_0); (try clear hx473_1); (try clear hx473_2); (try clear hx473_3); (try clear hx474_0); (try clear hx474_1); (try clear hx474_2); (try clear hx474_3); (try clear hx475_0); (try clear hx475_1); (try clear hx475_2); (try clear hx475_3); (try clear p465); (try clear p466); (try clear p471); (try clear p473); (try clear p474); (try clear p475); (try clear q465); (try clear q466); (try clear q471); (try clear q473); (try clear q474); (try clear q475); obtain ⟨kq, x243_84, rfl, HA, HJ84, HO_24, HB⟩ := hcut
                     cases kq with
                     | zero => exact absurd HA.out (by simp [laws_FnTeams.j6])
                     | succ kj84 =>
                      have H := HA.out; clear HA
                      simp only [laws_FnTeams.j6] at H
                      by_cases c89 : x243_84 = true
                      ·subst c89
                       have H1 : (none) = some r := by rw [if_pos rfl] at H; exact H
                       clear H; have H := H1; clear H1
                       exact absurd H (by simp)
                      ·replace c89 := Bool.eq_false_iff.mpr c89
                       subst c89
                       have H1 : ((impl_ArePeople.f kj84 t481).bind fun t494 => ((spec_ArePeople.f kj84 t481).bind fun t495 => (some (t494 == t495)))) = some r := by rw [if_neg (show ¬ (false = true) by decide)] at H; exact H
                       clear H; have H := H1; clear H1; replace H := Option.bind_eq_some_iff.mp H; obtain ⟨t494, A900, H⟩ := H
                       replace H : ((spec_ArePeople.f kj84 t481).bind fun t495 => (some (t494 == t495))) = some r := H
                       have A90 := Aside0.mk A900; clear A900; replace H := Option.bind_eq_some_iff.mp H; obtain ⟨t495, A910, H⟩ := H
                       replace H : (some (t494 == t495)) = some r := H
                       have A91 := Aside0.mk A910; clear A910
                       obtain rfl := Option.some.inj H
                       go_wp2_with (first | ((with_reducible refine gate_callee (f := 21) rfl ?_); refine goesL_ (some 245) rfl rfl Tryz.func21 (by kernel_rfl) rfl #[.slice Ao77 t481.length co77] rfl gl_ ?_; (with_reducible refine (impl_ArePeople.calls kj84 _ _ t481 t494 _ ?side1 ?side2 A90.out).mono ?_); (case side1 => exact z47_); (case side2 => exact (Kd.R_reads' HO_24.out).2.1); rintro e w92 ⟨rfl, hb⟩; refine ⟨_, rfl, ?_⟩; have n0_ := Aside0.mk (Kd.R_below (kr_ HO_24) hb); have n1_ := Aside0.mk (below_step bx_ hb); clear HO_24; clear HB; have HO_24 := n0_; have HB := n1_; clear n0_ n1_; (try clear hb); (try clear hk)) | ((with_reducible refine gate_callee (f := 22) rfl ?_); refine goesL_ (some 247) rfl rfl Tryz.func22 (by kernel_rfl) rfl #[.slice Ao77 t481.length co77] rfl gl_ ?_; (with_reducible refine (spec_ArePeople.calls kj84 _ _ t481 t495 _ ?side1 ?side2 A91.out).mono ?_); (case side1 => exact z47_); (case side2 => exact (Kd.R_reads' HO_24.out).2.1); rintro e w93 ⟨rfl, hb⟩; refine ⟨_, rfl, ?_⟩; have n0_ := Aside0.mk (Kd.R_below (kr_ HO_24) hb); have n1_ := Aside0.mk (below_step bx_ hb); clear HO_24; clear HB; have HO_24 := n0_; have HB := n1_; clear n0_ n1_; (try clear hb); (try clear hk)))
                       go_ret
                       exact ⟨z6_, z5_⟩
                   ·replace c83 := Bool.eq_false_iff.mpr c83
                    subst c83
                    have H1 : ((impl_ArePeople.f kj74 t481).bind fun t496 => ((spec_ArePeople.f kj74 t481).bind fun t497 => (some (t496 == t497)))) = some r := by rw [if_neg (show ¬ (false = true) by decide)] at H; exact H
                    clear H; have H := H1; clear H1; replace H := Option.bind_eq_some_iff.mp H; obtain ⟨t496, A940, H⟩ := H
                    replace H : ((spec_ArePeople.f kj74 t481).bind fun t497 => (some (t496 == t497))) = some r := H
                    have A94 := Aside0.mk A940; clear A940; replace H := Option.bind_eq_some_iff.mp H; obtain ⟨t497, A950, H⟩ := H
                    replace H : (some (t496 == t497)) = some r := H
                    have A95 := Aside0.mk A950; clear A950
                    obtain rfl := Option.some.inj H
                    go_wp2_with (first | ((with_reducible refine gate_callee (f := 21) rfl ?_); refine goesL_ (some 245) rfl rfl Tryz.func21 (by kernel_rfl) rfl #[.slice Ao77 t481.length co77] rfl gl_ ?_; (with_reducible refine (impl_ArePeople.calls kj74 _ _ t481 t496 _ ?side1 ?side2 A94.out).mono ?_); (case side1 => exact z47_); (case side2 => exact (Kd.R_reads' HO_24.out).2.1); rintro e w96 ⟨rfl, hb⟩; refine ⟨_, rfl, ?_⟩; have n0_ := Aside0.mk (Kd.R_below (kr_ HO_24) hb); have n1_ := Aside0.mk (Kd.R_below (kr_ HO_25) hb); have n2_ := Aside0.mk (below_step bx_ hb); clear HO_24; clear HO_25; clear HB; have HO_24 := n0_; have HO_25 := n1_; have HB := n2_; clear n0_ n1_ n2_; (try clear hb); (try clear hk)) | ((with_reducible refine gate_callee (f := 22) rfl ?_); refine goesL_ (some 247) rfl rfl Tryz.func22 (by kernel_rfl) rfl #[.slice Ao77 t481.length co77] rfl gl_ ?_; (with_reducible refine (spec_ArePeople.calls kj74 _ _ t481 t497 _ ?side1 ?side2 A95.out).mono ?_); (case side1 => exact z47_); (case side2 => exact (Kd.R_reads' HO_24.out).2.1); rintro e w97 ⟨rfl, hb⟩; refine ⟨_, rfl, ?_⟩; have n0_ := Aside0.mk (Kd.R_below (kr_ HO_24) hb); have n1_ := Aside0.mk (Kd.R_below (kr_ HO_25) hb); have n2_ := Aside0.mk (below_step bx_ hb); clear HO_24; clear HO_25; clear HB; have HO_24 := n0_; have HO_25 := n1_; have HB := n2_; clear n0_ n1_ n2_; (try clear hb); (try clear hk)))
                    go_ret
                    exact ⟨z6_, z5_⟩

end Go.Proofs.YtafdklajmklmkaaGreatDoor.XFnTeams
