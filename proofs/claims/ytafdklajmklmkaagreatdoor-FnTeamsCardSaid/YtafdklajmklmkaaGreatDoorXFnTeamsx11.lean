/- Contracts of the functions that the law FnTeams comes to: each is told as a plain function of its arguments, and the machine's call does what that function says; no condition. Written by programs (print.py, xprint.py); Lean checks it. -/
import Derived.Test.YtafdklajmklmkaaGreatDoorXFnTeamsx0
import Derived.Test.YtafdklajmklmkaaGreatDoorXFnTeamsx4
import Derived.Test.YtafdklajmklmkaaGreatDoorXFnTeamsx8
import Derived.Test.YtafdklajmklmkaaGreatDoorXFnTeamsx9
import Derived.Test.YtafdklajmklmkaaGreatDoorXFnTeamsx10
namespace Go.Proofs.YtafdklajmklmkaaGreatDoor.XFnTeams
open Go.RowKit Go.Proofs.YtafdklajmklmkaaGreatDoorW.PrintWords Go.Proofs.YtafdklajmklmkaaGreatDoorW.PrintLast Go.Proofs.YtafdklajmklmkaaGreatDoorW.PrintMore
open List renaming setIfInBounds_toArray → zA, set_cons_zero → zB, set_cons_succ → zC
attribute [local go_sem] max2_int min2_int max_two min_two max_three min_three max_four min_four   -- for this text's walks alone
set_option linter.unusedVariables false
set_option linter.unusedSimpArgs false

/-! ### spec_SmallestTeam: function 8 -/
mutual
def spec_SmallestTeam.j0 : Nat → List (S41) → Int → List Int → Bool → Option (List Int × Bool)
 | 0, _, _, _, _ => none
 | k + 1, x0, x1, x6, x19 => if x19 = true then (some (x6, false)) else (spec_SmallestTeam.l0 k x0 x1 x6 0)
def spec_SmallestTeam.l0 : Nat → List (S41) → Int → List Int → Int → Option (List Int × Bool)
 | 0, _, _, _, _ => none
 | k + 1, x0, x1, x6, x7 => if 0 ≤ (IntKind.u64.wrap ((x0.length : Int))) then (if x7 < (shl .i64 1 (IntKind.u64.wrap ((x0.length : Int)))) then ((spec_l5Members.f k x0 x7).bind fun t284 => ((spec_l5Team.f k x0 t284).bind fun t287 => (if t287 = true then ((spec_l5All.f k x0 t284).bind fun bt288 => (if (Go.bits .and .i64 bt288.1 x1) = x1 then (spec_SmallestTeam.j2 k x0 x1 x6 x7 t284 (decide (bt288.2 < 20))) else (spec_SmallestTeam.j2 k x0 x1 x6 x7 t284 true))) else (spec_SmallestTeam.l0 k x0 x1 x6 (wrap64 (x7 + 1)))))) else (some (x6, decide ((x6.length : Int) > 0)))) else (none)
def spec_SmallestTeam.j2 : Nat → List (S41) → Int → List Int → Int → List Int → Bool → Option (List Int × Bool)
 | 0, _, _, _, _, _, _ => none
 | k + 1, x0, x1, x6, x7, x8, x50 => if x50 = true then (spec_SmallestTeam.l0 k x0 x1 x6 (wrap64 (x7 + 1))) else (if (x6.length : Int) = 0 then (spec_SmallestTeam.l0 k x0 x1 x8 (wrap64 (x7 + 1))) else (if (x8.length : Int) < (x6.length : Int) then (spec_SmallestTeam.l0 k x0 x1 x8 (wrap64 (x7 + 1))) else (if (x8.length : Int) = (x6.length : Int) then ((spec_l5Less.f k x8 x6).bind fun t290 => (if t290 = true then (spec_SmallestTeam.l0 k x0 x1 x8 (wrap64 (x7 + 1))) else (spec_SmallestTeam.l0 k x0 x1 x6 (wrap64 (x7 + 1))))) else (spec_SmallestTeam.l0 k x0 x1 x6 (wrap64 (x7 + 1))))))
end
def spec_SmallestTeam.f (k : Nat) (l0 : List (S41)) (a1 : Int) : Option (List Int × Bool) := (some (([] : List Int) : List Int)).bind fun y279 => ((spec_l5Good.f k l0).bind fun t282 => (if t282 = true then ((spec_l5Skills.f a1).bind fun t283 => (spec_SmallestTeam.j0 k l0 a1 y279 (!t283))) else (spec_SmallestTeam.j0 k l0 a1 y279 true)))
set_option maxHeartbeats 8000000 in
set_option maxRecDepth 100000 in
theorem spec_SmallestTeam.calls (k : Nat) (A0 : Option Addr) (c0 : Nat) (l0 : List (S41)) (a1 : Int) (r1 : List Int) (r2 : Bool) (w : World) (hr0 : Kd.C k41 w A0 l0.length l0) (hc0 : l0.length ≤ c0) (h : spec_SmallestTeam.f k l0 a1 = some (r1, r2)) :
  Calls Tryz.prog 8 #[.slice A0 l0.length c0, .int .i64 a1] w fun e w' => ∃ v0_ : Value, e = .returned (.tuple #[v0_, .bool r2]) ∧ Kd.R (Kd.int .i64) 3 w' w.heap.size (fun _ => True) v0_ r1 ∧ Below w.heap.size w w' := by
 have HR0 := Aside0.mk hr0; have HC0 := Aside0.mk hc0; clear hr0 hc0
 have HB := Aside0.mk (Below.refl w.heap.size w)
 have H : ((some (([] : List Int) : List Int)).bind fun y279 => ((spec_l5Good.f k l0).bind fun t282 => (if t282 = true then ((spec_l5Skills.f a1).bind fun t283 => (spec_SmallestTeam.j0 k l0 a1 y279 (!t283))) else (spec_SmallestTeam.j0 k l0 a1 y279 true)))) = some (r1, r2) := h
 clear h
 obtain ⟨y279, hy279⟩ : ∃ y_ : List Int, y_ = (([] : List Int)) := ⟨_, rfl⟩
 replace H : ((spec_l5Good.f k l0).bind fun t282 => (if t282 = true then ((spec_l5Skills.f a1).bind fun t283 => (spec_SmallestTeam.j0 k l0 a1 y279 (!t283))) else (spec_SmallestTeam.j0 k l0 a1 y279 true))) = some (r1, r2) := by first | (rw [hy279]; with_reducible exact H) | (have H2_ := (Option.bind_some _ _).symm.trans H; rw [hy279]; with_reducible exact H2_) | (have H2_ := (Option.bind_some _ _).symm.trans H; with_reducible exact H2_) | with_reducible exact H | (rw [hy279]; exact H) | exact H
 have Ny279 := Aside0.mk hy279; clear hy279; have HC3 := Aside0.mk H; clear H
 go_enter Tryz.func8, Tryz.ntmps8
 go_upto_region 2 with (first | ((with_reducible refine gate_dst (N := 11) rfl ?_); (try (refine gate_guard (by rfl) ?_; dsimp only)); refine Kd.R_lit (Kd.int .i64) _ 3 ?hg (N := 11) ?hd (xs := ([] : List Int)) (inner := []) (ok := fun _ => True) (okp := fun _ => True) ?hr ?hp (fun _ hk => hk) trivial (Below.refl _ _) (Nat.le_refl _) (by simp) ?_; (case hd => rfl); (case hg => rfl); (case hr => first | (go_simp; done) | (go_simp; rfl)); (case hp => exact (Reps.none _ _)); intro v280 w4 ho5 hb hg_ hnew_; clear hg_ hnew_; (first | rw [← Ny279.out] at ho5 | (simp only [Int.reduceToNat] at ho5; rw [← Ny279.out] at ho5)); have n0_ := Aside0.mk (Kd.R_lower ho5 (below_size bx_)); have n1_ := Aside0.mk (below_step bx_ hb); clear HB; have HO281 := n0_; have HB := n1_; clear n0_ n1_; clear hb ho5))
 (try simp only [Act.put, zA, zB, zC])
 go_cut [19] (fun v19 wc => ∃ (kq : Nat) (x19_2 : Bool), v19 = .bool x19_2 ∧ Aside0 (spec_SmallestTeam.j0 kq l0 a1 y279 x19_2 = some (r1, r2)) ∧ Aside0 (kq ≤ k) ∧ Aside0 (Kd.R (Kd.int .i64) 3 wc w.heap.size (fun _ => True) v280 y279) ∧ Aside0 (Below w.heap.size w wc))
 case first =>
  have H := HC3.out; clear HC3; replace H := Option.bind_eq_some_iff.mp H; obtain ⟨t282, A60, H⟩ := H
  replace H : (if t282 = true then ((spec_l5Skills.f a1).bind fun t283 => (spec_SmallestTeam.j0 k l0 a1 y279 (!t283))) else (spec_SmallestTeam.j0 k l0 a1 y279 true)) = some (r1, r2) := H
  have A6 := Aside0.mk A60; clear A60
  by_cases c7 : t282 = true
  ·subst c7
   have H1 : ((spec_l5Skills.f a1).bind fun t283 => (spec_SmallestTeam.j0 k l0 a1 y279 (!t283))) = some (r1, r2) := by rw [if_pos rfl] at H; exact H
   clear H; have H := H1; clear H1; replace H := Option.bind_eq_some_iff.mp H; obtain ⟨t283, A80, H⟩ := H
   replace H : (spec_SmallestTeam.j0 k l0 a1 y279 (!t283)) = some (r1, r2) := H
   have A8 := Aside0.mk A80; clear A80
   have H' := Aside0.mk H
   clear H
   go_wp2_with (first | ((with_reducible refine gate_callee (f := 38) rfl ?_); refine goesL_ (some 13) rfl rfl Tryz.func38 (by kernel_rfl) rfl #[.slice A0 l0.length c0] rfl gl_ ?_; (with_reducible refine (spec_l5Good.calls k _ _ l0 true _ ?side1 ?side2 A6.out).mono ?_); (case side1 => exact z14_); (case side2 => exact HC0.out); rintro e w9 ⟨rfl, hb⟩; refine ⟨_, rfl, ?_⟩; have n0_ := Aside0.mk (Kd.R_below (kr_ HO281) hb); have n1_ := Aside0.mk (below_step bx_ hb); clear HO281; clear HB; have HO281 := n0_; have HB := n1_; clear n0_ n1_; (try clear hb); (try clear hk)) | (go_at_call 39; (with_reducible refine (spec_l5Skills.calls a1 t283 _ A8.out).mono ?_); rintro e w' ⟨rfl, ⟨nd, rfl⟩⟩))
   go_meet
   case rel => exact ⟨_, (!t283), z2_, H', ⟨by first | omega | exact Nat.le_refl _⟩, ⟨by (with_reducible repeat (first | apply Kd.R_alloc | apply Kd.R_drewN | apply Kd.R_drew)); exact HO281.out⟩, ⟨z5_⟩⟩
  ·replace c7 := Bool.eq_false_iff.mpr c7
   subst c7
   have H1 : (spec_SmallestTeam.j0 k l0 a1 y279 true) = some (r1, r2) := by rw [if_neg (show ¬ (false = true) by decide)] at H; exact H
   clear H; have H := H1; clear H1
   have H' := Aside0.mk H
   clear H
   go_wp2_with (first | ((with_reducible refine gate_callee (f := 38) rfl ?_); refine goesL_ (some 13) rfl rfl Tryz.func38 (by kernel_rfl) rfl #[.slice A0 l0.length c0] rfl gl_ ?_; (with_reducible refine (spec_l5Good.calls k _ _ l0 false _ ?side1 ?side2 A6.out).mono ?_); (case side1 => exact z14_); (case side2 => exact HC0.out); rintro e w10 ⟨rfl, hb⟩; refine ⟨_, rfl, ?_⟩; have n0_ := Aside0.mk (Kd.R_below (kr_ HO281) hb); have n1_ := Aside0.mk (below_step bx_ hb); clear HO281; clear HB; have HO281 := n0_; have HB := n1_; clear n0_ n1_; (try clear hb); (try clear hk)))
   go_meet
   case rel => exact ⟨_, (true), z2_, H', ⟨by first | omega | exact Nat.le_refl _⟩, ⟨by (with_reducible repeat (first | apply Kd.R_alloc | apply Kd.R_drewN | apply Kd.R_drew)); exact HO281.out⟩, ⟨z5_⟩⟩
 case rest =>
  clear HC3; (try clear c3); (try clear c7); (try clear c8); obtain ⟨kq, x19_2, rfl, HA, HJ2, HO_6, HB⟩ := hcut
  cases kq with
  | zero => exact absurd HA.out (by simp [spec_SmallestTeam.j0])
  | succ kj2 =>
   have H := HA.out; clear HA
   simp only [spec_SmallestTeam.j0] at H
   by_cases c11 : x19_2 = true
   ·subst c11
    have H1 : (some (y279, false)) = some (r1, r2) := by rw [if_pos rfl] at H; exact H
    clear H; have H := H1; clear H1
    simp only [Option.some.injEq, Prod.mk.injEq] at H
    obtain ⟨rfl, rfl⟩ := H
    go_wp2
    go_ret2
    exact ⟨_, z6_, z35_, z5_⟩
   ·replace c11 := Bool.eq_false_iff.mpr c11
    subst c11
    have H1 : (spec_SmallestTeam.l0 kj2 l0 a1 y279 0) = some (r1, r2) := by rw [if_neg (show ¬ (false = true) by decide)] at H; exact H
    clear H; have H := H1; clear H1
    have H' := Aside0.mk H
    clear H
    go_wp2
    go_loopg [6, 7] kj2 (fun kq v6 v7 w' => ∃ (x6_2 : List Int) (x7_2 : Int), v7 = .int .i64 x7_2 ∧ Aside0 (spec_SmallestTeam.l0 kq l0 a1 x6_2 x7_2 = some (r1, r2)) ∧ Aside0 (kq ≤ kj2) ∧ Aside0 (Kd.R (Kd.int .i64) 3 w' w.heap.size (fun _ => True) v6 x6_2) ∧ Aside0 (Below w.heap.size w w'))
    case atStart => exact ⟨(y279), (0), z2_, H', ⟨Nat.le_refl _⟩, ⟨z35_⟩, ⟨z5_⟩⟩
    case round =>
     clear H'
     (try clear c3); (try clear c7); (try clear c8); (try clear c11); obtain ⟨x6_2, x7_2, rfl, HA, HK2, HO_6, HB⟩ := hrel
     cases gk with
     | zero => exact absurd HA.out (by simp [spec_SmallestTeam.l0])
     | succ k2 =>
      have H := HA.out; clear HA
      simp only [spec_SmallestTeam.l0] at H
      obtain ⟨ji12, hji12⟩ : ∃ j_ : Int, (IntKind.u64.wrap ((l0.length : Int))) = j_ := ⟨_, rfl⟩
      replace H : (if 0 ≤ (ji12) then (if x7_2 < (shl .i64 1 (ji12)) then ((spec_l5Members.f k2 l0 x7_2).bind fun t284 => ((spec_l5Team.f k2 l0 t284).bind fun t287 => (if t287 = true then ((spec_l5All.f k2 l0 t284).bind fun bt288 => (if (Go.bits .and .i64 bt288.1 a1) = a1 then (spec_SmallestTeam.j2 k2 l0 a1 x6_2 x7_2 t284 (decide (bt288.2 < 20))) else (spec_SmallestTeam.j2 k2 l0 a1 x6_2 x7_2 t284 true))) else (spec_SmallestTeam.l0 k2 l0 a1 x6_2 (wrap64 (x7_2 + 1)))))) else (some (x6_2, decide ((x6_2.length : Int) > 0)))) else (none)) = some (r1, r2) := by first | (rw [hji12] at H; exact H) | (simp only [hji12] at H ⊢; exact H)
      by_cases c13 : 0 ≤ (ji12)
      ·rw [if_pos c13] at H
       have c13b0 := eq_true c13
       have c13b1 : decide (0 ≤ (ji12)) = true := decide_eq_true c13
       clear c13
       obtain ⟨ji14, hji14⟩ : ∃ j_ : Int, (shl .i64 1 (ji12)) = j_ := ⟨_, rfl⟩
       replace H : (if x7_2 < (ji14) then ((spec_l5Members.f k2 l0 x7_2).bind fun t284 => ((spec_l5Team.f k2 l0 t284).bind fun t287 => (if t287 = true then ((spec_l5All.f k2 l0 t284).bind fun bt288 => (if (Go.bits .and .i64 bt288.1 a1) = a1 then (spec_SmallestTeam.j2 k2 l0 a1 x6_2 x7_2 t284 (decide (bt288.2 < 20))) else (spec_SmallestTeam.j2 k2 l0 a1 x6_2 x7_2 t284 true))) else (spec_SmallestTeam.l0 k2 l0 a1 x6_2 (wrap64 (x7_2 + 1)))))) else (some (x6_2, decide ((x6_2.length : Int) > 0)))) = some (r1, r2) := by first | (rw [hji14] at H; exact H) | (simp only [hji14] at H ⊢; exact H)
       have hji14_ : (IntKind.i64.wrap (1 * 2 ^ min (ji12).toNat 64)) = ji14 := hji14
       have hji14z : (ji12) ≤ 64 → (IntKind.i64.wrap (1 * 2 ^ (ji12).toNat)) = ji14 := shl_small hji14
       have hji14u : (IntKind.i64.wrap (2 ^ min (ji12).toNat 64)) = ji14 := by have h_ := hji14_; rw [Int.one_mul] at h_; exact h_
       have hji14v : (ji12) ≤ 64 → (IntKind.i64.wrap (2 ^ (ji12).toNat)) = ji14 := fun hle_ => by have h_ := hji14z hle_; rw [Int.one_mul] at h_; exact h_
       have hji14y : (wrap64 (1 * 2 ^ min (ji12).toNat 64)) = ji14 := (i64_w _).symm.trans hji14_
       have hji14x : (ji12) ≤ 64 → (wrap64 (1 * 2 ^ (ji12).toNat)) = ji14 := fun h_ => (i64_w _).symm.trans (hji14z h_)
       by_cases c15 : x7_2 < (ji14)
       ·rw [if_pos c15] at H
        have c15b0 : decide (x7_2 < (ji14)) = true := decide_eq_true c15
        clear c15; replace H := Option.bind_eq_some_iff.mp H; obtain ⟨t284, A160, H⟩ := H
        replace H : ((spec_l5Team.f k2 l0 t284).bind fun t287 => (if t287 = true then ((spec_l5All.f k2 l0 t284).bind fun bt288 => (if (Go.bits .and .i64 bt288.1 a1) = a1 then (spec_SmallestTeam.j2 k2 l0 a1 x6_2 x7_2 t284 (decide (bt288.2 < 20))) else (spec_SmallestTeam.j2 k2 l0 a1 x6_2 x7_2 t284 true))) else (spec_SmallestTeam.l0 k2 l0 a1 x6_2 (wrap64 (x7_2 + 1))))) = some (r1, r2) := H
        have A16 := Aside0.mk A160; clear A160; replace H := Option.bind_eq_some_iff.mp H; obtain ⟨t287, A170, H⟩ := H
        replace H : (if t287 = true then ((spec_l5All.f k2 l0 t284).bind fun bt288 => (if (Go.bits .and .i64 bt288.1 a1) = a1 then (spec_SmallestTeam.j2 k2 l0 a1 x6_2 x7_2 t284 (decide (bt288.2 < 20))) else (spec_SmallestTeam.j2 k2 l0 a1 x6_2 x7_2 t284 true))) else (spec_SmallestTeam.l0 k2 l0 a1 x6_2 (wrap64 (x7_2 + 1)))) = some (r1, r2) := H
        have A17 := Aside0.mk A170; clear A170
        by_cases c18 : t287 = true
        ·subst c18
         have H1 : ((spec_l5All.f k2 l0 t284).bind fun bt288 => (if (Go.bits .and .i64 bt288.1 a1) = a1 then (spec_SmallestTeam.j2 k2 l0 a1 x6_2 x7_2 t284 (decide (bt288.2 < 20))) else (spec_SmallestTeam.j2 k2 l0 a1 x6_2 x7_2 t284 true))) = some (r1, r2) := by rw [if_pos rfl] at H; exact H
         clear H; have H := H1; clear H1; replace H := Option.bind_eq_some_iff.mp H; obtain ⟨⟨t288, t289⟩, A190, H⟩ := H
         replace H : (if (Go.bits .and .i64 t288 a1) = a1 then (spec_SmallestTeam.j2 k2 l0 a1 x6_2 x7_2 t284 (decide (t289 < 20))) else (spec_SmallestTeam.j2 k2 l0 a1 x6_2 x7_2 t284 true)) = some (r1, r2) := H
         have A19 := Aside0.mk A190; clear A190; have HC20 := Aside0.mk H; clear H
         go_upto_region 10 with (first | ((with_reducible refine gate_callee (f := 40) rfl ?_); refine goesL_ (some 31) rfl rfl Tryz.func40 (by kernel_rfl) rfl #[.slice A0 l0.length c0, .int .i64 x7_2] rfl gl_ ?_; (with_reducible refine (spec_l5Members.calls k2 _ _ l0 x7_2 t284 _ ?side1 ?side2 A16.out).mono ?_); (case side1 => exact z14_); (case side2 => exact HC0.out); rintro e w21 ⟨v285, rfl, ho0, hb⟩; refine ⟨_, rfl, ?_⟩; have n0_ := Aside0.mk (Kd.R_elder' (kr_ HO_6) (Kd.R_base ho0) hb); have n1_ := Aside0.mk (Kd.R_lower (Kd.R_new' ho0 (Kd.R_lt (kr_ HO_6))) (below_size bx_)); have n2_ := Aside0.mk (below_step bx_ hb); clear HO_6; clear HB; have HO_6 := n0_; have HO286 := n1_; have HB := n2_; clear n0_ n1_ n2_; (try clear hb); (try clear hk); (try clear ho0); obtain ⟨Ao22, co22, eo22⟩ := Kd.R_slice HO286.out; subst eo22) | ((with_reducible refine gate_callee (f := 41) rfl ?_); refine goesL_ (some 34) rfl rfl Tryz.func41 (by kernel_rfl) rfl #[.slice A0 l0.length c0, .slice Ao22 t284.length co22] rfl gl_ ?_; (with_reducible refine (spec_l5Team.calls k2 _ _ l0 _ _ t284 true _ ?side1 ?side2 ?side3 ?side4 A17.out).mono ?_); (case side1 => exact z14_); (case side2 => exact HC0.out); (case side3 => repeat (first | exact (Kd.R_reads' HO286.out).2.2 | (with_reducible refine Kd.C_alloc ?_ _) | (with_reducible refine Kd.C_drewN ?_ _) | (with_reducible refine Kd.C_drew ?_))); (case side4 => exact (Kd.R_reads' HO286.out).2.1); rintro e w23 ⟨rfl, hb⟩; refine ⟨_, rfl, ?_⟩; have n0_ := Aside0.mk (Kd.R_below (kr_ HO_6) hb); have n1_ := Aside0.mk (Kd.R_below (kr_ HO286) hb); have n2_ := Aside0.mk (below_step bx_ hb); clear HO_6; clear HO286; clear HB; have HO_6 := n0_; have HO286 := n1_; have HB := n2_; clear n0_ n1_ n2_; (try clear hb); (try clear hk)) | ((with_reducible refine gate_callee (f := 42) rfl ?_); refine goesL_ (some 39) rfl rfl Tryz.func42 (by kernel_rfl) rfl #[.slice A0 l0.length c0, .slice Ao22 t284.length co22] rfl gl_ ?_; (with_reducible refine (spec_l5All.calls k2 _ _ l0 _ _ t284 t288 t289 _ ?side1 ?side2 ?side3 ?side4 A19.out).mono ?_); (case side1 => exact z14_); (case side2 => exact HC0.out); (case side3 => repeat (first | exact (Kd.R_reads' HO286.out).2.2 | (with_reducible refine Kd.C_alloc ?_ _) | (with_reducible refine Kd.C_drewN ?_ _) | (with_reducible refine Kd.C_drew ?_))); (case side4 => exact (Kd.R_reads' HO286.out).2.1); rintro e w24 ⟨rfl, hb⟩; refine ⟨_, rfl, ?_⟩; have n0_ := Aside0.mk (Kd.R_below (kr_ HO_6) hb); have n1_ := Aside0.mk (Kd.R_below (kr_ HO286) hb); have n2_ := Aside0.mk (below_step bx_ hb); clear HO_6; clear HO286; clear HB; have HO_6 := n0_; have HO286 := n1_; have HB := n2_; clear n0_ n1_ n2_; (try clear hb); (try clear hk)))
         (try simp only [Act.put, zA, zB, zC])
         go_cut [50] (fun v50 wc => ∃ (kq : Nat) (x50_19 : Bool), v50 = .bool x50_19 ∧ Aside0 (spec_SmallestTeam.j2 kq l0 a1 x6_2 x7_2 t284 x50_19 = some (r1, r2)) ∧ Aside0 (kq ≤ k2) ∧ Aside0 (Kd.R (Kd.int .i64) 3 wc w.heap.size (fun k_ => some k_ ≠ ((.slice Ao22 t284.length co22) : Value).ownBlock) u6 x6_2) ∧ Aside0 (Kd.R (Kd.int .i64) 3 wc w.heap.size (fun k_ => some k_ ≠ (u6 : Value).ownBlock) (.slice Ao22 t284.length co22) t284) ∧ Aside0 (Below w.heap.size w wc))
         case first =>
          have H := HC20.out; clear HC20
          by_cases c25 : (Go.bits .and .i64 t288 a1) = a1
          ·rw [if_pos c25] at H
           have c25b0 : ((Go.bits .and .i64 t288 a1) == a1) = true := beq_iff_eq.mpr c25
           have c25b1 : ((Go.bits .and .i64 t288 a1) != a1) = false := bne_eq_false_iff_eq.mpr c25
           clear c25
           (first | rw [c25b0] | (simp only [i64_w, i32_w]; rw [c25b0]) | skip)
           have H' := Aside0.mk H
           clear H
           go_wp2
           go_meet
           case rel => exact ⟨_, (decide (t289 < 20)), z2_, H', ⟨by have := HJ2.out; have := HK2.out; first | omega | exact Nat.le_refl _⟩, ⟨by (with_reducible repeat (first | apply Kd.R_alloc | apply Kd.R_drewN | apply Kd.R_drew)); exact Kd.R_mono HO_6.out (fun _ hk => hk.2)⟩, ⟨by (with_reducible repeat (first | apply Kd.R_alloc | apply Kd.R_drewN | apply Kd.R_drew)); exact Kd.R_mono HO286.out (fun _ hk => hk.2)⟩, ⟨z5_⟩⟩
          ·rw [if_neg c25] at H
           have c25b0 : ((Go.bits .and .i64 t288 a1) == a1) = false := beq_eq_false_iff_ne.mpr c25
           have c25b1 : ((Go.bits .and .i64 t288 a1) != a1) = true := bne_iff_ne.mpr c25
           (first | rw [c25b0] | (simp only [i64_w, i32_w]; rw [c25b0]) | skip)
           have H' := Aside0.mk H
           clear H
           go_wp2
           go_meet
           case rel => exact ⟨_, (true), z2_, H', ⟨by have := HJ2.out; have := HK2.out; first | omega | exact Nat.le_refl _⟩, ⟨by (with_reducible repeat (first | apply Kd.R_alloc | apply Kd.R_drewN | apply Kd.R_drew)); exact Kd.R_mono HO_6.out (fun _ hk => hk.2)⟩, ⟨by (with_reducible repeat (first | apply Kd.R_alloc | apply Kd.R_drewN | apply Kd.R_drew)); exact Kd.R_mono HO286.out (fun _ hk => hk.2)⟩, ⟨z5_⟩⟩
         case rest =>
          clear HC20; (try clear c3); (try clear c4); (try clear c7); (try clear c8); (try clear c11); (try clear c13); (try clear c13b0); (try clear c13b1); (try clear c15); (try clear c15b0); (try clear c18); (try clear c25); (try clear c25b0); (try clear c25b1); obtain ⟨kq, x50_19, rfl, HA, HJ19, HO_6, HO_8, HB⟩ := hcut
          cases kq with
          | zero => exact absurd HA.out (by simp [spec_SmallestTeam.j2])
          | succ kj19 =>
           have H := HA.out; clear HA
           simp only [spec_SmallestTeam.j2] at H
           by_cases c26 : x50_19 = true
           ·subst c26
            have H1 : (spec_SmallestTeam.l0 kj19 l0 a1 x6_2 (wrap64 (x7_2 + 1))) = some (r1, r2) := by rw [if_pos rfl] at H; exact H
            clear H; have H := H1; clear H1
            have H' := Aside0.mk H
            clear H
            go_wp2
            go_roundg kj19
            case measure => have := HJ2.out; have := HK2.out; have := HJ19.out; omega
            case rel => exact ⟨(x6_2), (wrap64 (x7_2 + 1)), z2_, H', ⟨by have := HJ2.out; have := HK2.out; have := HJ19.out; omega⟩, ⟨z27_⟩, ⟨z5_⟩⟩
           ·replace c26 := Bool.eq_false_iff.mpr c26
            subst c26
            have H1 : (if (x6_2.length : Int) = 0 then (spec_SmallestTeam.l0 kj19 l0 a1 t284 (wrap64 (x7_2 + 1))) else (if (t284.length : Int) < (x6_2.length : Int) then (spec_SmallestTeam.l0 kj19 l0 a1 t284 (wrap64 (x7_2 + 1))) else (if (t284.length : Int) = (x6_2.length : Int) then ((spec_l5Less.f kj19 t284 x6_2).bind fun t290 => (if t290 = true then (spec_SmallestTeam.l0 kj19 l0 a1 t284 (wrap64 (x7_2 + 1))) else (spec_SmallestTeam.l0 kj19 l0 a1 x6_2 (wrap64 (x7_2 + 1))))) else (spec_SmallestTeam.l0 kj19 l0 a1 x6_2 (wrap64 (x7_2 + 1)))))) = some (r1, r2) := by rw [if_neg (show ¬ (false = true) by decide)] at H; exact H
            clear H; have H := H1; clear H1
            by_cases c27 : (x6_2.length : Int) = 0
            ·rw [if_pos c27] at H
             have c27b0 : ((x6_2.length : Int) == 0) = true := beq_iff_eq.mpr c27
             have c27b1 : ((x6_2.length : Int) != 0) = false := bne_eq_false_iff_eq.mpr c27
             clear c27
             have H' := Aside0.mk H
             clear H
             obtain ⟨Ao28, co28, eo28⟩ := Kd.R_slice HO_6.out
             subst eo28
             go_wp2
             go_roundg kj19
             case measure => have := HJ2.out; have := HK2.out; have := HJ19.out; omega
             case rel => exact ⟨(t284), (wrap64 (x7_2 + 1)), z2_, H', ⟨by have := HJ2.out; have := HK2.out; have := HJ19.out; omega⟩, ⟨z44_⟩, ⟨z5_⟩⟩
            ·rw [if_neg c27] at H
             have c27b0 : ((x6_2.length : Int) == 0) = false := beq_eq_false_iff_ne.mpr c27
             have c27b1 : ((x6_2.length : Int) != 0) = true := bne_iff_ne.mpr c27
             have c27b2 : ¬ (x6_2 = []) := fun h_ => c27 (by rw [h_]; rfl)
             by_cases c29 : (t284.length : Int) < (x6_2.length : Int)
             ·rw [if_pos c29] at H
              have c29b0 : decide ((t284.length : Int) < (x6_2.length : Int)) = true := decide_eq_true c29
              have c29b1 : decide (t284.length < x6_2.length) = true := decide_eq_true (Int.ofNat_lt.mp c29)
              clear c29
              have H' := Aside0.mk H
              clear H
              obtain ⟨Ao30, co30, eo30⟩ := Kd.R_slice HO_6.out
              subst eo30
              go_wp2
              go_roundg kj19
              case measure => have := HJ2.out; have := HK2.out; have := HJ19.out; omega
              case rel => exact ⟨(t284), (wrap64 (x7_2 + 1)), z2_, H', ⟨by have := HJ2.out; have := HK2.out; have := HJ19.out; omega⟩, ⟨z44_⟩, ⟨z5_⟩⟩
             ·rw [if_neg c29] at H
              have c29b0 : decide ((t284.length : Int) < (x6_2.length : Int)) = false := decide_eq_false c29
              have c29b1 : decide (t284.length < x6_2.length) = false := decide_eq_false (fun h => c29 (Int.ofNat_lt.mpr h))
              clear c29
              by_cases c31 : (t284.length : Int) = (x6_2.length : Int)
              ·rw [if_pos c31] at H
               have c31b0 : ((t284.length : Int) == (x6_2.length : Int)) = true := beq_iff_eq.mpr c31
               have c31b1 : ((t284.length : Int) != (x6_2.length : Int)) = false := bne_eq_false_iff_eq.mpr c31
               have c31b2 : (t284.length == x6_2.length) = true := by first | simpa using c31 | (simp at c31 ⊢; omega)
               clear c31; replace H := Option.bind_eq_some_iff.mp H; obtain ⟨t290, A320, H⟩ := H
               replace H : (if t290 = true then (spec_SmallestTeam.l0 kj19 l0 a1 t284 (wrap64 (x7_2 + 1))) else (spec_SmallestTeam.l0 kj19 l0 a1 x6_2 (wrap64 (x7_2 + 1)))) = some (r1, r2) := H
               have A32 := Aside0.mk A320; clear A320
               by_cases c33 : t290 = true
               ·subst c33
                have H1 : (spec_SmallestTeam.l0 kj19 l0 a1 t284 (wrap64 (x7_2 + 1))) = some (r1, r2) := by rw [if_pos rfl] at H; exact H
                clear H; have H := H1; clear H1
                have H' := Aside0.mk H
                clear H
                obtain ⟨Ao34, co34, eo34⟩ := Kd.R_slice HO_6.out
                subst eo34
                go_wp2_with (first | (go_at_call 43; (with_reducible refine (spec_l5Less.calls kj19 _ _ t284 _ _ x6_2 true _ ?side1 ?side2 ?side3 ?side4 A32.out).mono ?_); (case side1 => exact z36_); (case side2 => exact (Kd.R_reads' HO_8.out).2.1); (case side3 => exact z53_); (case side4 => exact (Kd.R_reads' HO_6.out).2.1); rintro e w' ⟨rfl, ⟨nd, rfl⟩⟩))
                go_roundg kj19
                case measure => have := HJ2.out; have := HK2.out; have := HJ19.out; omega
                case rel => exact ⟨(t284), (wrap64 (x7_2 + 1)), z2_, H', ⟨by have := HJ2.out; have := HK2.out; have := HJ19.out; omega⟩, ⟨z44_⟩, ⟨z5_⟩⟩
               ·replace c33 := Bool.eq_false_iff.mpr c33
                subst c33
                have H1 : (spec_SmallestTeam.l0 kj19 l0 a1 x6_2 (wrap64 (x7_2 + 1))) = some (r1, r2) := by rw [if_neg (show ¬ (false = true) by decide)] at H; exact H
                clear H; have H := H1; clear H1
                have H' := Aside0.mk H
                clear H
                obtain ⟨Ao35, co35, eo35⟩ := Kd.R_slice HO_6.out
                subst eo35
                go_wp2_with (first | (go_at_call 43; (with_reducible refine (spec_l5Less.calls kj19 _ _ t284 _ _ x6_2 false _ ?side1 ?side2 ?side3 ?side4 A32.out).mono ?_); (case side1 => exact z36_); (case side2 => exact (Kd.R_reads' HO_8.out).2.1); (case side3 => exact z53_); (case side4 => exact (Kd.R_reads' HO_6.out).2.1); rintro e w' ⟨rfl, ⟨nd, rfl⟩⟩))
                go_roundg kj19
                case measure => have := HJ2.out; have := HK2.out; have := HJ19.out; omega
                case rel => exact ⟨(x6_2), (wrap64 (x7_2 + 1)), z2_, H', ⟨by have := HJ2.out; have := HK2.out; have := HJ19.out; omega⟩, ⟨z27_⟩, ⟨z5_⟩⟩
              ·rw [if_neg c31] at H
               have c31b0 : ((t284.length : Int) == (x6_2.length : Int)) = false := beq_eq_false_iff_ne.mpr c31
               have c31b1 : ((t284.length : Int) != (x6_2.length : Int)) = true := bne_iff_ne.mpr c31
               have c31b2 : (t284.length == x6_2.length) = false := by first | simpa using c31 | (simp at c31 ⊢; omega)
               have H' := Aside0.mk H
               clear H
               obtain ⟨Ao36, co36, eo36⟩ := Kd.R_slice HO_6.out
               subst eo36
               go_wp2
               go_roundg kj19
               case measure => have := HJ2.out; have := HK2.out; have := HJ19.out; omega
               case rel => exact ⟨(x6_2), (wrap64 (x7_2 + 1)), z2_, H', ⟨by have := HJ2.out; have := HK2.out; have := HJ19.out; omega⟩, ⟨z27_⟩, ⟨z5_⟩⟩
        ·replace c18 := Bool.eq_false_iff.mpr c18
         subst c18
         have H1 : (spec_SmallestTeam.l0 k2 l0 a1 x6_2 (wrap64 (x7_2 + 1))) = some (r1, r2) := by rw [if_neg (show ¬ (false = true) by decide)] at H; exact H
         clear H; have H := H1; clear H1
         have H' := Aside0.mk H
         clear H
         go_wp2_with (first | ((with_reducible refine gate_callee (f := 40) rfl ?_); refine goesL_ (some 31) rfl rfl Tryz.func40 (by kernel_rfl) rfl #[.slice A0 l0.length c0, .int .i64 x7_2] rfl gl_ ?_; (with_reducible refine (spec_l5Members.calls k2 _ _ l0 x7_2 t284 _ ?side1 ?side2 A16.out).mono ?_); (case side1 => exact z14_); (case side2 => exact HC0.out); rintro e w37 ⟨v285, rfl, ho0, hb⟩; refine ⟨_, rfl, ?_⟩; have n0_ := Aside0.mk (Kd.R_elder' (kr_ HO_6) (Kd.R_base ho0) hb); have n1_ := Aside0.mk (Kd.R_lower (Kd.R_new' ho0 (Kd.R_lt (kr_ HO_6))) (below_size bx_)); have n2_ := Aside0.mk (below_step bx_ hb); clear HO_6; clear HB; have HO_6 := n0_; have HO286 := n1_; have HB := n2_; clear n0_ n1_ n2_; (try clear hb); (try clear hk); (try clear ho0); obtain ⟨Ao38, co38, eo38⟩ := Kd.R_slice HO286.out; subst eo38) | ((with_reducible refine gate_callee (f := 41) rfl ?_); refine goesL_ (some 34) rfl rfl Tryz.func41 (by kernel_rfl) rfl #[.slice A0 l0.length c0, .slice Ao38 t284.length co38] rfl gl_ ?_; (with_reducible refine (spec_l5Team.calls k2 _ _ l0 _ _ t284 false _ ?side1 ?side2 ?side3 ?side4 A17.out).mono ?_); (case side1 => exact z14_); (case side2 => exact HC0.out); (case side3 => repeat (first | exact (Kd.R_reads' HO286.out).2.2 | (with_reducible refine Kd.C_alloc ?_ _) | (with_reducible refine Kd.C_drewN ?_ _) | (with_reducible refine Kd.C_drew ?_))); (case side4 => exact (Kd.R_reads' HO286.out).2.1); rintro e w39 ⟨rfl, hb⟩; refine ⟨_, rfl, ?_⟩; have n0_ := Aside0.mk (Kd.R_below (kr_ HO_6) hb); have n1_ := Aside0.mk (Kd.R_below (kr_ HO286) hb); have n2_ := Aside0.mk (below_step bx_ hb); clear HO_6; clear HO286; clear HB; have HO_6 := n0_; have HO286 := n1_; have HB := n2_; clear n0_ n1_ n2_; (try clear hb); (try clear hk)))
         go_roundg k2
         case measure => have := HJ2.out; have := HK2.out; omega
         case rel => exact ⟨(x6_2), (wrap64 (x7_2 + 1)), z2_, H', ⟨by have := HJ2.out; have := HK2.out; omega⟩, ⟨z27_⟩, ⟨z5_⟩⟩
       ·rw [if_neg c15] at H
        have c15b0 : decide (x7_2 < (ji14)) = false := decide_eq_false c15
        clear c15
        simp only [Option.some.injEq, Prod.mk.injEq] at H
        obtain ⟨rfl, rfl⟩ := H
        obtain ⟨Ao40, co40, eo40⟩ := Kd.R_slice HO_6.out
        subst eo40
        go_wp2
        go_ret2
        exact ⟨_, by first | rfl | (simp [errW_none, errW_some] <;> rfl) | (simp only [← hji12, ← hji14]; first | rfl | (simp [errW_none, errW_some] <;> rfl)) | (simp [*, errW_none, errW_some] <;> rfl), z35_, z5_⟩
      ·rw [if_neg c13] at H
       exact absurd H (by simp)

/-! ### laws_rInts: function 9 -/
def laws_rInts.l0 : Nat → List Int → List Int → Int → Option (Bool)
 | 0, _, _, _ => none
 | k + 1, x0, x1, x5 => if x5 < (x0.length : Int) then (if 0 ≤ x5 then (if x5 < (x1.length : Int) then (if (rd x0 x5) = (rd x1 x5) then (laws_rInts.l0 k x0 x1 (wrap64 (x5 + 1))) else (some false)) else (none)) else (none)) else (some true)
def laws_rInts.f (k : Nat) (l0 : List Int) (l1 : List Int) : Option (Bool) := if (l0.length : Int) = (l1.length : Int) then (laws_rInts.l0 k l0 l1 0) else (some false)
set_option maxHeartbeats 8000000 in
set_option maxRecDepth 100000 in
theorem laws_rInts.calls (k : Nat) (A0 : Option Addr) (c0 : Nat) (l0 : List Int) (A1 : Option Addr) (c1 : Nat) (l1 : List Int) (r : Bool) (w : World) (hr0 : Kd.C (Kd.int .i64) w A0 l0.length l0) (hc0 : l0.length ≤ c0) (hr1 : Kd.C (Kd.int .i64) w A1 l1.length l1) (hc1 : l1.length ≤ c1) (h : laws_rInts.f k l0 l1 = some r) :
  Calls Tryz.prog 9 #[.slice A0 l0.length c0, .slice A1 l1.length c1] w fun e w' => e = .returned (.bool r) ∧ Drawn0 w w' := by
 have HR0 := Aside0.mk hr0; have HC0 := Aside0.mk hc0; clear hr0 hc0; have HR1 := Aside0.mk hr1; have HC1 := Aside0.mk hc1; clear hr1 hc1
 have H : (if (l0.length : Int) = (l1.length : Int) then (laws_rInts.l0 k l0 l1 0) else (some false)) = some r := h
 clear h
 by_cases c3 : (l0.length : Int) = (l1.length : Int)
 ·rw [if_pos c3] at H
  have c3b0 : ((l0.length : Int) == (l1.length : Int)) = true := beq_iff_eq.mpr c3
  have c3b1 : ((l0.length : Int) != (l1.length : Int)) = false := bne_eq_false_iff_eq.mpr c3
  have c3b2 : (l0.length == l1.length) = true := by first | simpa using c3 | (simp at c3 ⊢; omega)
  clear c3
  have H' := Aside0.mk H
  clear H
  go_enter Tryz.func9, Tryz.ntmps9
  go_wp2
  repeat (go_quiet (fail); try go_wp2)
  go_loopg [5] k (fun kq v5 w' => ∃ (x5_1 : Int), v5 = .int .i64 x5_1 ∧ Aside0 (laws_rInts.l0 kq l0 l1 x5_1 = some r) ∧ Aside0 (kq ≤ k) ∧ Drawn0 w w')
  case atStart => exact ⟨(0), z2_, H', ⟨Nat.le_refl _⟩, z7_⟩
  case round =>
   clear H'
   (try clear c3); (try clear c3b0); (try clear c3b1); (try clear c3b2); obtain ⟨x5_1, rfl, HA, HK1, ⟨m1, rfl⟩⟩ := hrel
   cases gk with
   | zero => exact absurd HA.out (by simp [laws_rInts.l0])
   | succ k1 =>
    have H := HA.out; clear HA
    simp only [laws_rInts.l0] at H
    by_cases c4 : x5_1 < (l0.length : Int)
    ·rw [if_pos c4] at H
     have c4b0 : decide (x5_1 < (l0.length : Int)) = true := decide_eq_true c4
     clear c4
     by_cases c5 : 0 ≤ x5_1
     ·rw [if_pos c5] at H
      have c5b0 : decide (0 ≤ x5_1) = true := decide_eq_true c5
      clear c5
      by_cases c6 : x5_1 < (l1.length : Int)
      ·rw [if_pos c6] at H
       have c6b0 : decide (x5_1 < (l1.length : Int)) = true := decide_eq_true c6
       clear c6
       by_cases c7 : (rd l0 x5_1) = (rd l1 x5_1)
       ·rw [if_pos c7] at H
        have c7b0 : ((rd l0 x5_1) == (rd l1 x5_1)) = true := beq_iff_eq.mpr c7
        have c7b1 : ((rd l0 x5_1) != (rd l1 x5_1)) = false := bne_eq_false_iff_eq.mpr c7
        clear c7
        have H' := Aside0.mk H
        clear H
        have p291 : 0 ≤ (x5_1 : Int) := od_
        have q291 : x5_1 < (l0.length : Int) := od_
        obtain ⟨ad291, e291, hx291_0⟩ := Kd.at_int HR0.out x5_1 p291 q291
        cases e291
        replace p291 := eq_true p291
        replace q291 := eq_true q291
        have p292 : 0 ≤ (x5_1 : Int) := od_
        have q292 : x5_1 < (l1.length : Int) := od_
        obtain ⟨ad292, e292, hx292_0⟩ := Kd.at_int HR1.out x5_1 p292 q292
        cases e292
        replace p292 := eq_true p292
        replace q292 := eq_true q292
        go_wp2
        repeat (go_quiet (fail); try go_wp2)
        go_roundg k1
        case measure => have := HK1.out; omega
        case rel => exact ⟨(wrap64 (x5_1 + 1)), z2_, H', ⟨by have := HK1.out; omega⟩, z7_⟩
       ·rw [if_neg c7] at H
        have c7b0 : ((rd l0 x5_1) == (rd l1 x5_1)) = false := beq_eq_false_iff_ne.mpr c7
        have c7b1 : ((rd l0 x5_1) != (rd l1 x5_1)) = true := bne_iff_ne.mpr c7
        obtain rfl := Option.some.inj H
        have p291 : 0 ≤ (x5_1 : Int) := od_
        have q291 : x5_1 < (l0.length : Int) := od_
        obtain ⟨ad291, e291, hx291_0⟩ := Kd.at_int HR0.out x5_1 p291 q291
        cases e291
        replace p291 := eq_true p291
        replace q291 := eq_true q291
        have p292 : 0 ≤ (x5_1 : Int) := od_
        have q292 : x5_1 < (l1.length : Int) := od_
        obtain ⟨ad292, e292, hx292_0⟩ := Kd.at_int HR1.out x5_1 p292 q292
        cases e292
        replace p292 := eq_true p292
        replace q292 := eq_true q292
        go_wp2
        repeat (go_quiet (fail); try go_wp2)
        go_ret
        exact ⟨z2_, z7_⟩
      ·rw [if_neg c6] at H
       exact absurd H (by simp)
     ·rw [if_neg c5] at H
      exact absurd H (by simp)
    ·rw [if_neg c4] at H
     have c4b0 : decide (x5_1 < (l0.length : Int)) = false := decide_eq_false c4
     clear c4
     obtain rfl := Option.some.inj H
     go_wp2
     repeat (go_quiet (fail); try go_wp2)
     go_ret
     exact ⟨z2_, z7_⟩
 ·rw [if_neg c3] at H
  have c3b0 : ((l0.length : Int) == (l1.length : Int)) = false := beq_eq_false_iff_ne.mpr c3
  have c3b1 : ((l0.length : Int) != (l1.length : Int)) = true := bne_iff_ne.mpr c3
  have c3b2 : (l0.length == l1.length) = false := by first | simpa using c3 | (simp at c3 ⊢; omega)
  obtain rfl := Option.some.inj H
  go_enter Tryz.func9, Tryz.ntmps9
  go_wp2
  repeat (go_quiet (fail); try go_wp2)
  go_ret
  exact ⟨z2_, z7_⟩

/-! ### impl_strictly: function 68 -/
def impl_strictly.l0 : Nat → List Int → Int → Int → List Int → Int → Int → Option (Bool)
 | 0, _, _, _, _, _, _ => none
 | k + 1, x0, x1, x2, x9, x10, x11 => if x11 < x10 then (if 0 ≤ x11 then (if x11 < (x9.length : Int) then ((impl_within.f (rd x9 x11) x1 x2).bind fun t294 => (if t294 = true then (if x11 > 0 then (if 0 ≤ (wrap64 (x11 - 1)) then (if (wrap64 (x11 - 1)) < (x0.length : Int) then (if (rd x0 (wrap64 (x11 - 1))) ≥ (rd x9 x11) then (some false) else (impl_strictly.l0 k x0 x1 x2 x9 x10 (wrap64 (x11 + 1)))) else (none)) else (none)) else (impl_strictly.l0 k x0 x1 x2 x9 x10 (wrap64 (x11 + 1)))) else (some false))) else (none)) else (none)) else (some true)
def impl_strictly.f (k : Nat) (l0 : List Int) (a1 : Int) (a2 : Int) : Option (Bool) := impl_strictly.l0 k l0 a1 a2 l0 (l0.length : Int) 0
set_option maxHeartbeats 8000000 in
set_option maxRecDepth 100000 in
theorem impl_strictly.calls (k : Nat) (A0 : Option Addr) (c0 : Nat) (l0 : List Int) (a1 : Int) (a2 : Int) (r : Bool) (w : World) (hr0 : Kd.C (Kd.int .i64) w A0 l0.length l0) (hc0 : l0.length ≤ c0) (h : impl_strictly.f k l0 a1 a2 = some r) :
  Calls Tryz.prog 68 #[.slice A0 l0.length c0, .int .i64 a1, .int .i64 a2] w fun e w' => e = .returned (.bool r) ∧ Drawn0 w w' := by
 have HR0 := Aside0.mk hr0; have HC0 := Aside0.mk hc0; clear hr0 hc0
 have H : (impl_strictly.l0 k l0 a1 a2 l0 (l0.length : Int) 0) = some r := h
 clear h
 have H' := Aside0.mk H
 clear H
 go_enter Tryz.func68, Tryz.ntmps68
 go_wp2
 go_loopg [11] k (fun kq v11 w' => ∃ (x11_1 : Int), v11 = .int .i64 x11_1 ∧ Aside0 (impl_strictly.l0 kq l0 a1 a2 l0 (l0.length : Int) x11_1 = some r) ∧ Aside0 (kq ≤ k) ∧ Drawn0 w w')
 case atStart => exact ⟨(0), z2_, H', ⟨Nat.le_refl _⟩, z7_⟩
 case round =>
  clear H'
  obtain ⟨x11_1, rfl, HA, HK1, ⟨m1, rfl⟩⟩ := hrel
  cases gk with
  | zero => exact absurd HA.out (by simp [impl_strictly.l0])
  | succ k1 =>
   have H := HA.out; clear HA
   simp only [impl_strictly.l0] at H
   by_cases c4 : x11_1 < (l0.length : Int)
   ·rw [if_pos c4] at H
    have c4b0 : decide (x11_1 < (l0.length : Int)) = true := decide_eq_true c4
    clear c4
    by_cases c5 : 0 ≤ x11_1
    ·rw [if_pos c5] at H
     have c5b0 : decide (0 ≤ x11_1) = true := decide_eq_true c5
     clear c5
     by_cases c6 : x11_1 < (l0.length : Int)
     ·rw [if_pos c6] at H
      have c6b0 : decide (x11_1 < (l0.length : Int)) = true := decide_eq_true c6
      clear c6; replace H := Option.bind_eq_some_iff.mp H; obtain ⟨t294, A70, H⟩ := H
      replace H : (if t294 = true then (if x11_1 > 0 then (if 0 ≤ (wrap64 (x11_1 - 1)) then (if (wrap64 (x11_1 - 1)) < (l0.length : Int) then (if (rd l0 (wrap64 (x11_1 - 1))) ≥ (rd l0 x11_1) then (some false) else (impl_strictly.l0 k1 l0 a1 a2 l0 (l0.length : Int) (wrap64 (x11_1 + 1)))) else (none)) else (none)) else (impl_strictly.l0 k1 l0 a1 a2 l0 (l0.length : Int) (wrap64 (x11_1 + 1)))) else (some false)) = some r := H
      have A7 := Aside0.mk A70; clear A70
      by_cases c8 : t294 = true
      ·subst c8
       have H1 : (if x11_1 > 0 then (if 0 ≤ (wrap64 (x11_1 - 1)) then (if (wrap64 (x11_1 - 1)) < (l0.length : Int) then (if (rd l0 (wrap64 (x11_1 - 1))) ≥ (rd l0 x11_1) then (some false) else (impl_strictly.l0 k1 l0 a1 a2 l0 (l0.length : Int) (wrap64 (x11_1 + 1)))) else (none)) else (none)) else (impl_strictly.l0 k1 l0 a1 a2 l0 (l0.length : Int) (wrap64 (x11_1 + 1)))) = some r := by rw [if_pos rfl] at H; exact H
       clear H; have H := H1; clear H1
       by_cases c9 : x11_1 > 0
       ·rw [if_pos c9] at H
        have c9b0 : decide (0 < x11_1) = true := decide_eq_true c9
        clear c9
        obtain ⟨ji10, hji10⟩ : ∃ j_ : Int, (wrap64 (x11_1 - 1)) = j_ := ⟨_, rfl⟩
        replace H : (if 0 ≤ (ji10) then (if (ji10) < (l0.length : Int) then (if (rd l0 (ji10)) ≥ (rd l0 x11_1) then (some false) else (impl_strictly.l0 k1 l0 a1 a2 l0 (l0.length : Int) (wrap64 (x11_1 + 1)))) else (none)) else (none)) = some r := by first | (rw [hji10] at H; exact H) | (simp only [hji10] at H ⊢; exact H)
        (try rw [hji10] at A7)
        have hji10w : (IntKind.i64.wrap (x11_1 - 1)) = ji10 := (i64_w _).trans hji10
        by_cases c11 : 0 ≤ (ji10)
        ·rw [if_pos c11] at H
         have c11b0 : decide (0 ≤ (ji10)) = true := decide_eq_true c11
         clear c11
         by_cases c12 : (ji10) < (l0.length : Int)
         ·rw [if_pos c12] at H
          have c12b0 : decide ((ji10) < (l0.length : Int)) = true := decide_eq_true c12
          clear c12
          by_cases c13 : (rd l0 (ji10)) ≥ (rd l0 x11_1)
          ·rw [if_pos c13] at H
           have c13b0 : decide ((rd l0 x11_1) ≤ (rd l0 (ji10))) = true := decide_eq_true c13
           clear c13
           obtain rfl := Option.some.inj H
           have p293 : 0 ≤ (x11_1 : Int) := od_
           have q293 : x11_1 < (l0.length : Int) := od_
           obtain ⟨ad293, e293, hx293_0⟩ := Kd.at_int HR0.out x11_1 p293 q293
           cases e293
           replace p293 := eq_true p293
           replace q293 := eq_true q293
           go_wp2_with (first | ((with_reducible refine gate_callee (f := 57) rfl ?_); refine goesL_ (some 19) rfl rfl Tryz.func57 (by kernel_rfl) rfl #[.int .i64 (rd l0 x11_1), .int .i64 a1, .int .i64 a2] rfl gl_ ?_; (with_reducible refine (impl_within.calls (rd l0 x11_1) a1 a2 true _ A7.out).mono ?_); rintro e w' ⟨rfl, ⟨nd, rfl⟩⟩; refine ⟨_, rfl, ?_⟩; have p295 : 0 ≤ ((ji10) : Int) := od_; have q295 : (ji10) < (l0.length : Int) := od_; obtain ⟨ad295, e295, hx295_0⟩ := Kd.at_int HR0.out (ji10) p295 q295; obtain rfl : ad293 = ad295 := (by injection e295); replace p295 := eq_true p295; replace q295 := eq_true q295))
           go_ret
           exact ⟨by first | rfl | (simp; done) | (simp only [← hji10] <;> (first | rfl | simp)) | (simp [*]; done), z7_⟩
          ·rw [if_neg c13] at H
           have c13b0 : decide ((rd l0 x11_1) ≤ (rd l0 (ji10))) = false := decide_eq_false c13
           clear c13
           have H' := Aside0.mk H
           clear H
           have p293 : 0 ≤ (x11_1 : Int) := od_
           have q293 : x11_1 < (l0.length : Int) := od_
           obtain ⟨ad293, e293, hx293_0⟩ := Kd.at_int HR0.out x11_1 p293 q293
           cases e293
           replace p293 := eq_true p293
           replace q293 := eq_true q293
           go_wp2_with (first | ((with_reducible refine gate_callee (f := 57) rfl ?_); refine goesL_ (some 19) rfl rfl Tryz.func57 (by kernel_rfl) rfl #[.int .i64 (rd l0 x11_1), .int .i64 a1, .int .i64 a2] rfl gl_ ?_; (with_reducible refine (impl_within.calls (rd l0 x11_1) a1 a2 true _ A7.out).mono ?_); rintro e w' ⟨rfl, ⟨nd, rfl⟩⟩; refine ⟨_, rfl, ?_⟩; have p295 : 0 ≤ ((ji10) : Int) := od_; have q295 : (ji10) < (l0.length : Int) := od_; obtain ⟨ad295, e295, hx295_0⟩ := Kd.at_int HR0.out (ji10) p295 q295; obtain rfl : ad293 = ad295 := (by injection e295); replace p295 := eq_true p295; replace q295 := eq_true q295))
           go_roundg k1
           case measure => have := HK1.out; omega
           case rel => exact ⟨(wrap64 (x11_1 + 1)), z2_, H', ⟨by have := HK1.out; omega⟩, z7_⟩
         ·rw [if_neg c12] at H
          exact absurd H (by simp)
        ·rw [if_neg c11] at H
         exact absurd H (by simp)
       ·rw [if_neg c9] at H
        have c9b0 : decide (0 < x11_1) = false := decide_eq_false c9
        clear c9
        have H' := Aside0.mk H
        clear H
        have p293 : 0 ≤ (x11_1 : Int) := od_
        have q293 : x11_1 < (l0.length : Int) := od_
        obtain ⟨ad293, e293, hx293_0⟩ := Kd.at_int HR0.out x11_1 p293 q293
        cases e293
        replace p293 := eq_true p293
        replace q293 := eq_true q293
        go_wp2_with (first | ((with_reducible refine gate_callee (f := 57) rfl ?_); refine goesL_ (some 19) rfl rfl Tryz.func57 (by kernel_rfl) rfl #[.int .i64 (rd l0 x11_1), .int .i64 a1, .int .i64 a2] rfl gl_ ?_; (with_reducible refine (impl_within.calls (rd l0 x11_1) a1 a2 true _ A7.out).mono ?_); rintro e w' ⟨rfl, ⟨nd, rfl⟩⟩; refine ⟨_, rfl, ?_⟩))
        go_roundg k1
        case measure => have := HK1.out; omega
        case rel => exact ⟨(wrap64 (x11_1 + 1)), z2_, H', ⟨by have := HK1.out; omega⟩, z7_⟩
      ·replace c8 := Bool.eq_false_iff.mpr c8
       subst c8
       have H1 : (some false) = some r := by rw [if_neg (show ¬ (false = true) by decide)] at H; exact H
       clear H; have H := H1; clear H1
       obtain rfl := Option.some.inj H
       have p293 : 0 ≤ (x11_1 : Int) := od_
       have q293 : x11_1 < (l0.length : Int) := od_
       obtain ⟨ad293, e293, hx293_0⟩ := Kd.at_int HR0.out x11_1 p293 q293
       cases e293
       replace p293 := eq_true p293
       replace q293 := eq_true q293
       go_wp2_with (first | ((with_reducible refine gate_callee (f := 57) rfl ?_); refine goesL_ (some 19) rfl rfl Tryz.func57 (by kernel_rfl) rfl #[.int .i64 (rd l0 x11_1), .int .i64 a1, .int .i64 a2] rfl gl_ ?_; (with_reducible refine (impl_within.calls (rd l0 x11_1) a1 a2 false _ A7.out).mono ?_); rintro e w' ⟨rfl, ⟨nd, rfl⟩⟩; refine ⟨_, rfl, ?_⟩))
       go_ret
       exact ⟨z2_, z7_⟩
     ·rw [if_neg c6] at H
      exact absurd H (by simp)
    ·rw [if_neg c5] at H
     exact absurd H (by simp)
   ·rw [if_neg c4] at H
    have c4b0 : decide (x11_1 < (l0.length : Int)) = false := decide_eq_false c4
    clear c4
    obtain rfl := Option.some.inj H
    go_wp2
    go_ret
    exact ⟨z2_, z7_⟩

end Go.Proofs.YtafdklajmklmkaaGreatDoor.XFnTeams
