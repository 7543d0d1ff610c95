/- Contracts of the functions that the law FnTeamCounts comes to: each is told as a plain function of its arguments, and the machine's call does what that function says; no condition. Written by programs (print.py, xprint.py); Lean checks it. -/
import Derived.Test.YtafdklajmklmkaaGreatDoorXFnTeamCountsx0
import Derived.Test.YtafdklajmklmkaaGreatDoorXFnTeamCountsx2
import Derived.Test.YtafdklajmklmkaaGreatDoorXFnTeamCountsx7
import Derived.Test.YtafdklajmklmkaaGreatDoorXFnTeamCountsx8
namespace Go.Proofs.YtafdklajmklmkaaGreatDoor.XFnTeamCounts
open Go.RowKit Go.Proofs.YtafdklajmklmkaaGreatDoorW.PrintWords Go.Proofs.YtafdklajmklmkaaGreatDoorW.PrintLast Go.Proofs.YtafdklajmklmkaaGreatDoorW.PrintMore
attribute [local go_sem] max2_int min2_int max_two min_two max_three min_three max_four min_four   -- for this text's walks alone
set_option linter.unusedVariables false
set_option linter.unusedSimpArgs false

/-! ### impl_SplitTeams: function 24 -/
mutual
def impl_SplitTeams.l0 : Nat → List (S41) → Int → Option ((List (List Int)) × Bool)
 | 0, _, _ => none
 | k + 1, x0, x4 => (impl_canSplit.f k x0 x4).bind fun t276 => (if t276 = true then (impl_SplitTeams.l1 k x0 x4 ([] : List (List Int))) else (impl_SplitTeams.l0 k x0 (wrap64 (x4 - 1))))
def impl_SplitTeams.l1 : Nat → List (S41) → Int → List (List Int) → Option ((List (List Int)) × Bool)
 | 0, _, _, _ => none
 | k + 1, x0, x4, x5 => if x4 > 0 then ((impl_teams.f k x0).bind fun t277 => (impl_SplitTeams.l2 k x0 x4 x5 t277 (t277.length : Int) 0)) else (some (x5, true))
def impl_SplitTeams.l2 : Nat → List (S41) → Int → List (List Int) → List (List (S41)) → Int → Int → Option ((List (List Int)) × Bool)
 | 0, _, _, _, _, _, _ => none
 | k + 1, x0, x4, x5, x23, x24, x25 => if x25 < x24 then (if 0 ≤ x25 then (if x25 < (x23.length : Int) then ((impl_others.f x0 (rd_L4 x23 x25)).bind fun t281 => ((impl_canSplit.f k t281 (wrap64 (x4 - 1))).bind fun t284 => (if t284 = true then ((impl_idsOf.f k (rd_L4 x23 x25)).bind fun t285 => (if x5.length < 5864062014805 then (impl_SplitTeams.l1 k t281 (wrap64 (x4 - 1)) (x5 ++ [t285])) else (none))) else (impl_SplitTeams.l2 k x0 x4 x5 x23 x24 (wrap64 (x25 + 1)))))) else (none)) else (none)) else (impl_SplitTeams.l1 k x0 (wrap64 (x4 - 1)) x5)
end
def impl_SplitTeams.f (k : Nat) (l0 : List (S41)) : Option ((List (List Int)) × Bool) := (impl_ArePeople.f k l0).bind fun t275 => (if t275 = true then (impl_SplitTeams.l0 k l0 3) else (some (([] : List (List Int)), false)))
set_option maxHeartbeats 8000000 in
set_option maxRecDepth 100000 in
theorem impl_SplitTeams.calls (k : Nat) (P0_ : Nat → Prop) (A0 : Option Addr) (c0 : Nat) (l0 : List (S41)) (r1 : List (List Int)) (r2 : Bool) (w : World) (hs0 : Kd.V k41 41 w w.heap.size (fun k_ => P0_ k_) (.slice A0 l0.length c0) l0) (h : impl_SplitTeams.f k l0 = some (r1, r2)) :
  Calls Tryz.prog 24 #[.slice A0 l0.length c0] w fun e w' => ∃ v0_ : Value, e = .returned (.tuple #[v0_, .bool r2]) ∧ Kd.S (Kd.slice 3 (Kd.int .i64)) 27 w' w.heap.size (fun k_ => (w.heap.size ≤ k_)) v0_ r1 ∧ Below w.heap.size w w' := by
 have HO0 := Aside0.mk (show Kd.V k41 41 w w.heap.size (fun k_ => (P0_ k_ ∨ w.heap.size ≤ k_)) (.slice A0 l0.length c0) l0 from Kd.V_mono hs0 (fun k_ hk => .inl hk))
 have HB := Aside0.mk (Below.refl w.heap.size w)
 have H : ((impl_ArePeople.f k l0).bind fun t275 => (if t275 = true then (impl_SplitTeams.l0 k l0 3) else (some (([] : List (List Int)), false)))) = some (r1, r2) := h
 clear h; replace H := Option.bind_eq_some_iff.mp H; obtain ⟨t275, A20, H⟩ := H
 replace H : (if t275 = true then (impl_SplitTeams.l0 k l0 3) else (some (([] : List (List Int)), false))) = some (r1, r2) := H
 have A2 := Aside0.mk A20; clear A20
 by_cases c3 : t275 = true
 ·subst c3
  have H1 : (impl_SplitTeams.l0 k l0 3) = some (r1, r2) := by rw [if_pos rfl] at H; exact H
  clear H; have H := H1; clear H1
  have H' := Aside0.mk H
  clear H
  go_enter Tryz.func24, Tryz.ntmps24
  go_wp2_with (first | ((with_reducible refine gate_callee (f := 21) rfl ?_); refine goesL_ (some 10) rfl rfl Tryz.func21 (by kernel_rfl) rfl #[.slice A0 l0.length c0] rfl gl_ ?_; (with_reducible refine (impl_ArePeople.calls k _ _ l0 true _ ?side1 ?side2 A2.out).mono ?_); (case side1 => exact z65_); (case side2 => exact (Kd.V_reads' HO0.out).2.1); rintro e w4 ⟨rfl, hb⟩; refine ⟨_, rfl, ?_⟩; have n0_ := Aside0.mk (Kd.V_below z57_ hb); have n1_ := Aside0.mk (below_step bx_ hb); clear HO0; clear HB; have HO0 := n0_; have HB := n1_; clear n0_ n1_; (try clear hb); (try clear hk)))
  go_loopg [4] k (fun kq v4 w' => ∃ (x4_1 : Int), v4 = .int .i64 x4_1 ∧ Aside0 (impl_SplitTeams.l0 kq l0 x4_1 = some (r1, r2)) ∧ Aside0 (kq ≤ k) ∧ Aside0 (Kd.V k41 41 w' w.heap.size (fun k_ => (P0_ k_ ∨ w.heap.size ≤ k_)) (.slice A0 l0.length c0) l0) ∧ Aside0 (Below w.heap.size w w'))
  case atStart => exact ⟨(3), z2_, H', ⟨Nat.le_refl _⟩, ⟨z57_⟩, ⟨z4_⟩⟩
  case round =>
   clear H'
   (try clear c2); (try clear c3); obtain ⟨x4_1, rfl, HA, HK1, HO_0, HB⟩ := hrel
   cases gk with
   | zero => exact absurd HA.out (by simp [impl_SplitTeams.l0])
   | succ k1 =>
    have H := HA.out; clear HA
    simp only [impl_SplitTeams.l0] at H
    replace H := Option.bind_eq_some_iff.mp H; obtain ⟨t276, A50, H⟩ := H
    replace H : (if t276 = true then (impl_SplitTeams.l1 k1 l0 x4_1 ([] : List (List Int))) else (impl_SplitTeams.l0 k1 l0 (wrap64 (x4_1 - 1)))) = some (r1, r2) := H
    have A5 := Aside0.mk A50; clear A50
    by_cases c6 : t276 = true
    ·subst c6
     have H1 : (impl_SplitTeams.l1 k1 l0 x4_1 ([] : List (List Int))) = some (r1, r2) := by rw [if_pos rfl] at H; exact H
     clear H; have H := H1; clear H1
     have H' := Aside0.mk H
     clear H
     go_wp2_with (first | ((with_reducible refine gate_callee (f := 59) rfl ?_); refine goesL_ (some 14) rfl rfl Tryz.func59 (by kernel_rfl) rfl #[.slice A0 l0.length c0, .int .i64 x4_1] rfl gl_ ?_; (with_reducible refine (impl_canSplit.calls k1 _ _ l0 x4_1 true _ ?side1 ?side2 A5.out).mono ?_); (case side1 => exact z39_); (case side2 => exact (Kd.V_reads' HO_0.out).2.1); rintro e w7 ⟨rfl, hb⟩; refine ⟨_, rfl, ?_⟩; have n0_ := Aside0.mk (Kd.V_below z20_ hb); have n1_ := Aside0.mk (below_step bx_ hb); clear HO_0; clear HB; have HO_0 := n0_; have HB := n1_; clear n0_ n1_; (try clear hb); (try clear hk)))
     go_loopg [0, 4, 5] k1 (fun kq v0 v4 v5 w' => ∃ (x0_2 : List (S41)) (x4_2 : Int) (x5_2 : List (List Int)), v4 = .int .i64 x4_2 ∧ Aside0 (impl_SplitTeams.l1 kq x0_2 x4_2 x5_2 = some (r1, r2)) ∧ Aside0 (kq ≤ k1) ∧ Aside0 (Kd.V k41 41 w' w.heap.size (fun k_ => (P0_ k_ ∨ w.heap.size ≤ k_) ∧ some k_ ≠ (v5 : Value).ownBlock) v0 x0_2) ∧ Aside0 (Kd.S (Kd.slice 3 (Kd.int .i64)) 27 w' w.heap.size (fun k_ => (w.heap.size ≤ k_)) v5 x5_2) ∧ Aside0 (Below w.heap.size w w'))
     case atStart => exact ⟨(l0), (x4_1), (([] : List (List Int))), z2_, H', ⟨Nat.le_refl _⟩, ⟨by (with_reducible repeat (first | apply Kd.V_alloc | apply Kd.V_drewN | apply Kd.V_drew)); exact Kd.V_mono HO_0.out (fun _ hk => ⟨hk, (by simp [Value.ownBlock])⟩)⟩, ⟨z56_⟩, ⟨z4_⟩⟩
     case round =>
      clear H'
      (try clear c2); (try clear c3); (try clear c5); (try clear c6); (try clear p6); obtain ⟨x0_2, x4_2, x5_2, rfl, HA, HK2, HO_0, HO_5, HB⟩ := hrel
      cases gk with
      | zero => exact absurd HA.out (by simp [impl_SplitTeams.l1])
      | succ k2 =>
       have H := HA.out; clear HA
       simp only [impl_SplitTeams.l1] at H
       by_cases c8 : x4_2 > 0
       ·rw [if_pos c8] at H
        have c8b0 : decide (0 < x4_2) = true := decide_eq_true c8
        clear c8; replace H := Option.bind_eq_some_iff.mp H; obtain ⟨t277, A90, H⟩ := H
        replace H : (impl_SplitTeams.l2 k2 x0_2 x4_2 x5_2 t277 (t277.length : Int) 0) = some (r1, r2) := H
        have A9 := Aside0.mk A90; clear A90
        have H' := Aside0.mk H
        clear H
        obtain ⟨Ao10, co10, eo10⟩ := Kd.V_slice HO_0.out
        subst eo10
        go_wp2_with (first | ((with_reducible refine gate_callee (f := 35) rfl ?_); refine goesL_ (some 23) rfl rfl Tryz.func35 (by kernel_rfl) rfl #[.slice Ao10 x0_2.length co10] rfl gl_ ?_; (with_reducible refine (impl_teams.calls k2 _ _ x0_2 t277 _ ?side1 ?side2 A9.out).mono ?_); (case side1 => exact z39_); (case side2 => exact (Kd.V_reads' HO_0.out).2.1); rintro e w11 ⟨v278, rfl, ho0, hb⟩; refine ⟨_, rfl, ?_⟩; have n0_ := Aside0.mk (Kd.V_elder' z20_ (Kd.S_base ho0) hb); have n1_ := Aside0.mk (Kd.S_below z14_ hb); have n2_ := Aside0.mk (Kd.S_lower (Kd.S_newM (M := fun k_ => (w.heap.size ≤ k_)) ho0 (below_size bx_) (fun k_ h_ => h_)) (below_size bx_)); have n3_ := Aside0.mk (below_step bx_ hb); clear HO_0; clear HO_5; clear HB; have HO_0 := n0_; have HO_5 := n1_; have HO279 := n2_; have HB := n3_; clear n0_ n1_ n2_ n3_; (try clear hb); (try clear hk); (try clear ho0); obtain ⟨Ao12, co12, eo12⟩ := Kd.S_slice HO279.out; subst eo12))
        go_loopg [0, 5, 25] k2 (fun kq v0 v5 v25 w' => ∃ (x0_3 : List (S41)) (x5_3 : List (List Int)) (x25_3 : Int), v25 = .int .i64 x25_3 ∧ Aside0 (impl_SplitTeams.l2 kq x0_3 x4_2 x5_3 t277 (t277.length : Int) x25_3 = some (r1, r2)) ∧ Aside0 (kq ≤ k2) ∧ Aside0 (Kd.V k41 41 w' w.heap.size (fun k_ => (P0_ k_ ∨ w.heap.size ≤ k_) ∧ some k_ ≠ (v5 : Value).ownBlock ∧ some k_ ≠ ((.slice Ao12 t277.length co12) : Value).ownBlock) v0 x0_3) ∧ Aside0 (Kd.S (Kd.slice 3 (Kd.int .i64)) 27 w' w.heap.size (fun k_ => (w.heap.size ≤ k_)) v5 x5_3) ∧ Aside0 (Kd.S (Kd.slice 41 k41) 24 w' w.heap.size (fun k_ => (w.heap.size ≤ k_)) (.slice Ao12 t277.length co12) t277) ∧ Aside0 (Below w.heap.size w w'))
        case atStart => exact ⟨(x0_2), (x5_2), (0), z2_, H', ⟨Nat.le_refl _⟩, ⟨by (with_reducible repeat (first | apply Kd.V_alloc | apply Kd.V_drewN | apply Kd.V_drew)); exact Kd.V_mono HO_0.out (fun _ hk => ⟨hk.1.1, ⟨hk.1.2, hk.2⟩⟩)⟩, ⟨z14_⟩, ⟨by (with_reducible repeat (first | apply Kd.S_alloc | apply Kd.S_drewN | apply Kd.S_drew)); exact Kd.S_mono HO279.out (fun _ hk => hk.1)⟩, ⟨z4_⟩⟩
        case round =>
         clear H'
         (try clear c2); (try clear c3); (try clear c5); (try clear c6); (try clear p6); (try clear c8); (try clear c8b0); (try clear p6); obtain ⟨x0_3, x5_3, x25_3, rfl, HA, HK3, HO_0, HO_5, HO_23, HB⟩ := hrel
         cases gk with
         | zero => exact absurd HA.out (by simp [impl_SplitTeams.l2])
         | succ k3 =>
          have H := HA.out; clear HA
          simp only [impl_SplitTeams.l2] at H
          by_cases c13 : x25_3 < (t277.length : Int)
          ·rw [if_pos c13] at H
           have c13b0 : decide (x25_3 < (t277.length : Int)) = true := decide_eq_true c13
           clear c13
           by_cases c14 : 0 ≤ x25_3
           ·rw [if_pos c14] at H
            have c14b0 : decide (0 ≤ x25_3) = true := decide_eq_true c14
            clear c14
            by_cases c15 : x25_3 < (t277.length : Int)
            ·rw [if_pos c15] at H
             have c15b0 : decide (x25_3 < (t277.length : Int)) = true := decide_eq_true c15
             clear c15; replace H := Option.bind_eq_some_iff.mp H; obtain ⟨t281, A160, H⟩ := H
             replace H : ((impl_canSplit.f k3 t281 (wrap64 (x4_2 - 1))).bind fun t284 => (if t284 = true then ((impl_idsOf.f k3 (rd_L4 t277 x25_3)).bind fun t285 => (if x5_3.length < 5864062014805 then (impl_SplitTeams.l1 k3 t281 (wrap64 (x4_2 - 1)) (x5_3 ++ [t285])) else (none))) else (impl_SplitTeams.l2 k3 x0_3 x4_2 x5_3 t277 (t277.length : Int) (wrap64 (x25_3 + 1))))) = some (r1, r2) := H
             have A16 := Aside0.mk A160; clear A160; replace H := Option.bind_eq_some_iff.mp H; obtain ⟨t284, A170, H⟩ := H
             replace H : (if t284 = true then ((impl_idsOf.f k3 (rd_L4 t277 x25_3)).bind fun t285 => (if x5_3.length < 5864062014805 then (impl_SplitTeams.l1 k3 t281 (wrap64 (x4_2 - 1)) (x5_3 ++ [t285])) else (none))) else (impl_SplitTeams.l2 k3 x0_3 x4_2 x5_3 t277 (t277.length : Int) (wrap64 (x25_3 + 1)))) = some (r1, r2) := H
             have A17 := Aside0.mk A170; clear A170
             by_cases c18 : t284 = true
             ·subst c18
              have H1 : ((impl_idsOf.f k3 (rd_L4 t277 x25_3)).bind fun t285 => (if x5_3.length < 5864062014805 then (impl_SplitTeams.l1 k3 t281 (wrap64 (x4_2 - 1)) (x5_3 ++ [t285])) else (none))) = some (r1, r2) := by rw [if_pos rfl] at H; exact H
              clear H; have H := H1; clear H1; replace H := Option.bind_eq_some_iff.mp H; obtain ⟨t285, A190, H⟩ := H
              replace H : (if x5_3.length < 5864062014805 then (impl_SplitTeams.l1 k3 t281 (wrap64 (x4_2 - 1)) (x5_3 ++ [t285])) else (none)) = some (r1, r2) := H
              have A19 := Aside0.mk A190; clear A190
              by_cases c20 : x5_3.length < 5864062014805
              ·rw [if_pos c20] at H
               have LMc20 := Aside0.mk c20; clear c20
               obtain ⟨y288, hy288⟩ : ∃ y_ : List (List Int), y_ = (x5_3 ++ [t285]) := ⟨_, rfl⟩
               replace H : (impl_SplitTeams.l1 k3 t281 (wrap64 (x4_2 - 1)) y288) = some (r1, r2) := by first | (rw [hy288]; with_reducible exact H) | (have H2_ := (Option.bind_some _ _).symm.trans H; rw [hy288]; with_reducible exact H2_) | (have H2_ := (Option.bind_some _ _).symm.trans H; with_reducible exact H2_) | with_reducible exact H | (rw [hy288]; exact H) | exact H
               have Ny288 := Aside0.mk hy288; clear hy288
               have H' := Aside0.mk H
               clear H
               have p280 : 0 ≤ (x25_3 : Int) := od_
               have q280 : x25_3 < (t277.length : Int) := od_
               obtain ⟨ad280, A280_0, c280_0, e280, hx280_0, hl280_0, hi280_0⟩ := at_L4 (Kd.S_reads' HO_23.out).2.2 x25_3 p280 q280
               cases e280
               obtain ⟨ce280, hce280, hMe280, hcc280⟩ := Kd.S_get HO_23.out [] x25_3 p280 (by first | exact q280 | exact od_ | (have e_ := (Kd.S_reads' HO_23.out).1; omega))
               obtain ⟨ve280_0, rfl, ge280_0⟩ := hMe280; have hv280_0 := hcc280 0 _ rfl
               rw [Nat.add_zero, show ((Kd.slice 41 k41)).sz = 1 from rfl, Nat.mul_one] at hv280_0
               replace hv280_0 := Option.some.inj (hv280_0.symm.trans hx280_0)
               rw [hv280_0] at ge280_0
               have HL280_0 := Aside0.mk (show Kd.R k41 41 _ _ _ _ (rd_L4 t277 x25_3) from ge280_0)
               clear hv280_0 ge280_0; clear hcc280 hce280; have HR280_0 := Aside0.mk hi280_0; have HC280_0 := Aside0.mk hl280_0; clear hi280_0 hl280_0
               replace p280 := eq_true p280
               replace q280 := eq_true q280
               obtain ⟨Ao21, co21, eo21⟩ := Kd.V_slice HO_0.out
               subst eo21
               go_wp2_with (first | ((with_reducible refine gate_callee (f := 60) rfl ?_); refine goesL_ (some 31) rfl rfl Tryz.func60 (by kernel_rfl) rfl #[.slice Ao21 x0_3.length co21, .slice A280_0 (rd_L4 t277 x25_3).length c280_0] rfl gl_ ?_; (with_reducible refine (impl_others.calls _ _ x0_3 _ _ (rd_L4 t277 x25_3) t281 _ ?side1 ?side2 ?side3 ?side4 A16.out).mono ?_); (case side1 => exact z39_); (case side2 => exact (Kd.V_reads' HO_0.out).2.1); (case side3 => repeat (first | exact z23_ | (with_reducible refine Kd.C_alloc ?_ _) | (with_reducible refine Kd.C_drewN ?_ _) | (with_reducible refine Kd.C_drew ?_))); (case side4 => exact HC280_0.out); rintro e w22 ⟨v282, rfl, ho0, hb⟩; refine ⟨_, rfl, ?_⟩; have n0_ := Aside0.mk (Kd.V_elder' z20_ (Kd.R_base ho0) hb); have n1_ := Aside0.mk (Kd.S_below z14_ hb); have n2_ := Aside0.mk (Kd.S_elder' z34_ (Kd.R_base ho0) hb); have n3_ := Aside0.mk (Kd.R_elder' z24_ (Kd.R_base ho0) hb); have n4_ := Aside0.mk (Kd.R_lower (Kd.R_new' (Kd.R_newM (M := fun k_ => (w.heap.size ≤ k_)) ho0 (below_size bx_) (fun k_ h_ => h_)) (Kd.R_lt z24_)) (below_size bx_)); have n5_ := Aside0.mk (Kd.C_below z23_ hb); have n6_ := Aside0.mk (below_step bx_ hb); clear HO_0; clear HO_5; clear HO_23; clear HL280_0; clear HR280_0; clear HB; have HO_0 := n0_; have HO_5 := n1_; have HO_23 := n2_; have HL280_0 := n3_; have HO283 := n4_; have HR280_0 := n5_; have HB := n6_; clear n0_ n1_ n2_ n3_ n4_ n5_ n6_; (try clear hb); (try clear hk); (try clear ho0); obtain ⟨Ao23, co23, eo23⟩ := Kd.R_slice HO283.out; subst eo23) | ((with_reducible refine gate_callee (f := 59) rfl ?_); refine goesL_ (some 35) rfl rfl Tryz.func59 (by kernel_rfl) rfl #[.slice Ao23 t281.length co23, .int .i64 (wrap64 (x4_2 - 1))] rfl gl_ ?_; (with_reducible refine (impl_canSplit.calls k3 _ _ t281 (wrap64 (x4_2 - 1)) true _ ?side1 ?side2 A17.out).mono ?_); (case side1 => repeat (first | exact (Kd.R_reads' HO283.out).2.2 | (with_reducible refine Kd.C_alloc ?_ _) | (with_reducible refine Kd.C_drewN ?_ _) | (with_reducible refine Kd.C_drew ?_))); (case side2 => exact (Kd.R_reads' HO283.out).2.1); rintro e w24 ⟨rfl, hb⟩; refine ⟨_, rfl, ?_⟩; have n0_ := Aside0.mk (Kd.V_below z20_ hb); have n1_ := Aside0.mk (Kd.S_below z14_ hb); have n2_ := Aside0.mk (Kd.S_below z34_ hb); have n3_ := Aside0.mk (Kd.R_below z24_ hb); have n4_ := Aside0.mk (Kd.R_below (kr_ HO283) hb); have n5_ := Aside0.mk (Kd.C_below z23_ hb); have n6_ := Aside0.mk (below_step bx_ hb); clear HO_0; clear HO_5; clear HO_23; clear HL280_0; clear HO283; clear HR280_0; clear HB; have HO_0 := n0_; have HO_5 := n1_; have HO_23 := n2_; have HL280_0 := n3_; have HO283 := n4_; have HR280_0 := n5_; have HB := n6_; clear n0_ n1_ n2_ n3_ n4_ n5_ n6_; (try clear hb); (try clear hk)) | ((with_reducible refine gate_callee (f := 37) rfl ?_); refine goesL_ (some 38) rfl rfl Tryz.func37 (by kernel_rfl) rfl #[.slice A280_0 (rd_L4 t277 x25_3).length c280_0] rfl gl_ ?_; (with_reducible refine (impl_idsOf.calls k3 _ _ (rd_L4 t277 x25_3) t285 _ ?side1 ?side2 A19.out).mono ?_); (case side1 => repeat (first | exact z23_ | (with_reducible refine Kd.C_alloc ?_ _) | (with_reducible refine Kd.C_drewN ?_ _) | (with_reducible refine Kd.C_drew ?_))); (case side2 => exact HC280_0.out); rintro e w25 ⟨v286, rfl, ho0, hb⟩; refine ⟨_, rfl, ?_⟩; have n0_ := Aside0.mk (Kd.V_elder' z20_ (Kd.R_base ho0) hb); have n1_ := Aside0.mk (Kd.S_elder' z14_ (Kd.R_base ho0) hb); have n2_ := Aside0.mk (Kd.S_below z34_ hb); have n3_ := Aside0.mk (Kd.R_below z24_ hb); have n4_ := Aside0.mk (Kd.R_below (kr_ HO283) hb); have n5_ := Aside0.mk (Kd.R_lower (Kd.R_newM (M := fun k_ => (w.heap.size ≤ k_)) ho0 (below_size bx_) (fun k_ h_ => h_)) (below_size bx_)); have n6_ := Aside0.mk (Kd.C_below z23_ hb); have n7_ := Aside0.mk (below_step bx_ hb); clear HO_0; clear HO_5; clear HO_23; clear HL280_0; clear HO283; clear HR280_0; clear HB; have HO_0 := n0_; have HO_5 := n1_; have HO_23 := n2_; have HL280_0 := n3_; have HO283 := n4_; have HO287 := n5_; have HR280_0 := n6_; have HB := n7_; clear n0_ n1_ n2_ n3_ n4_ n5_ n6_ n7_; (try clear hb); (try clear hk); (try clear ho0); obtain ⟨Ao27, co27, eo27⟩ := Kd.R_slice HO287.out; subst eo27) | ((with_reducible refine gate_builtin (b := .append) (xs := #[.tmp 36, .tmp 39]) rfl ?_); at_builtin; refine Kd.S_append (Kd.slice 3 (Kd.int .i64)) (w0 := w) w.heap.size rfl (.tmp 36) (.tmp 39) 48 27 (.slice none 0 0) 24 rfl Tryz.underlying48 info27 rfl (by decide) (by omega) u5 x5_3 t285 [.slice Ao27 t285.length co27] (fun k_ => (w.heap.size ≤ k_)) (fun k_ => some k_ = (.slice Ao27 t285.length co27 : Value).ownBlock) rfl rfl ?aP (fun k_ hk_ => ((Kd.R_mono (ok' := fun k_ => ((fun k_ => (w.heap.size ≤ k_))) k_ ∧ some k_ ≠ (u5 : Value).ownBlock) (Kd.R_apart' (HO287.out) (Kd.S_typed HO_5.out) (by decide)) (fun k_ hk => ⟨hk.1.1, hk.2⟩))).1 k_ hk_.symm) ?aF ?aO ?aB ?aS ?aL ?_; (case aP => exact Kd.M_row (Kd.R_mono (Kd.R_tight rfl (Kd.R_mono (ok' := fun k_ => ((fun k_ => (w.heap.size ≤ k_))) k_ ∧ some k_ ≠ (u5 : Value).ownBlock) (Kd.R_apart' (HO287.out) (Kd.S_typed HO_5.out) (by decide)) (fun k_ hk => ⟨hk.1.1, hk.2⟩))) (fun _ h_ => h_))); (case aB => exact bx_); (case aF => exact (fun k_ hk => (Nat.le_trans (below_size bx_) hk))); (case aO => exact (by (with_reducible repeat (first | apply Kd.S_alloc | apply Kd.S_drewN | apply Kd.S_drew)); exact Kd.S_mono HO_5.out (fun k_ hk => ⟨hk.1, fun e_ => hk.2 e_⟩))); (case aS => exact (below_size bx_)); (case aL => have := LMc20.out; omega); intro v289 w26 ho hb hg hat; rw [← Ny288.out] at ho; have n0_ := Aside0.mk (Kd.V_afterv (ok := (fun k_ => (P0_ k_ ∨ w.heap.size ≤ k_) ∧ some k_ ≠ (.slice (some ad280) t277.length co12 : Value).ownBlock ∧ some k_ ≠ (.slice Ao23 t281.length co23 : Value).ownBlock ∧ some k_ ≠ (.slice Ao27 t285.length co27 : Value).ownBlock)) (by (with_reducible repeat (first | apply Kd.V_alloc | apply Kd.V_drewN | apply Kd.V_drew)); exact Kd.V_mono HO_0.out (fun _ hk => ⟨⟨hk.1.1.1, ⟨hk.1.1.2.2, ⟨hk.1.2, hk.2⟩⟩⟩, hk.1.1.2.1⟩)) hg hat); have n1_ := Aside0.mk (Kd.S_over' z34_ (Kd.S_typed z14_) (by decide) hg); have n2_ := Aside0.mk (Kd.R_over' z24_ (Kd.S_typed z14_) (by decide) hg); have n3_ := Aside0.mk (Kd.R_over' (kr_ HO283) (Kd.S_typed z14_) (by decide) hg); have n4_ := Aside0.mk (hb); have n5_ := Aside0.mk (ho); clear HO_0; clear HO_23; clear HL280_0; clear HO283; clear HB; clear HO_5; clear HO287; have HO_0 := n0_; have HO_23 := n1_; have HL280_0 := n2_; have HO283 := n3_; have HB := n4_; have HO290 := n5_; clear n0_ n1_ n2_ n3_ n4_ n5_; clear ho hb hg hat))
               go_roundg k3
               case measure => have := HK1.out; have := HK2.out; have := HK3.out; omega
               case rel => exact ⟨(t281), (wrap64 (x4_2 - 1)), (y288), z2_, H', ⟨by have := HK1.out; have := HK2.out; have := HK3.out; omega⟩, ⟨Kd.V_mono (Kd.R_V (Kd.R_apart' HO283.out (Kd.S_typed HO290.out) (by decide))) (fun k_ hk => ⟨.inr hk.1.1.1, hk.2⟩)⟩, ⟨by (with_reducible repeat (first | apply Kd.S_alloc | apply Kd.S_drewN | apply Kd.S_drew)); exact HO290.out⟩, ⟨z4_⟩⟩
              ·rw [if_neg c20] at H
               exact absurd H (by simp)
             ·replace c18 := Bool.eq_false_iff.mpr c18
              subst c18
              have H1 : (impl_SplitTeams.l2 k3 x0_3 x4_2 x5_3 t277 (t277.length : Int) (wrap64 (x25_3 + 1))) = some (r1, r2) := by rw [if_neg (show ¬ (false = true) by decide)] at H; exact H
              clear H; have H := H1; clear H1
              have H' := Aside0.mk H
              clear H
              have p280 : 0 ≤ (x25_3 : Int) := od_
              have q280 : x25_3 < (t277.length : Int) := od_
              obtain ⟨ad280, A280_0, c280_0, e280, hx280_0, hl280_0, hi280_0⟩ := at_L4 (Kd.S_reads' HO_23.out).2.2 x25_3 p280 q280
              cases e280
              obtain ⟨ce280, hce280, hMe280, hcc280⟩ := Kd.S_get HO_23.out [] x25_3 p280 (by first | exact q280 | exact od_ | (have e_ := (Kd.S_reads' HO_23.out).1; omega))
              obtain ⟨ve280_0, rfl, ge280_0⟩ := hMe280; have hv280_0 := hcc280 0 _ rfl
              rw [Nat.add_zero, show ((Kd.slice 41 k41)).sz = 1 from rfl, Nat.mul_one] at hv280_0
              replace hv280_0 := Option.some.inj (hv280_0.symm.trans hx280_0)
              rw [hv280_0] at ge280_0
              have HL280_0 := Aside0.mk (show Kd.R k41 41 _ _ _ _ (rd_L4 t277 x25_3) from ge280_0)
              clear hv280_0 ge280_0; clear hcc280 hce280; have HR280_0 := Aside0.mk hi280_0; have HC280_0 := Aside0.mk hl280_0; clear hi280_0 hl280_0
              replace p280 := eq_true p280
              replace q280 := eq_true q280
              obtain ⟨Ao28, co28, eo28⟩ := Kd.V_slice HO_0.out
              subst eo28
              go_wp2_with (first | ((with_reducible refine gate_callee (f := 60) rfl ?_); refine goesL_ (some 31) rfl rfl Tryz.func60 (by kernel_rfl) rfl #[.slice Ao28 x0_3.length co28, .slice A280_0 (rd_L4 t277 x25_3).length c280_0] rfl gl_ ?_; (with_reducible refine (impl_others.calls _ _ x0_3 _ _ (rd_L4 t277 x25_3) t281 _ ?side1 ?side2 ?side3 ?side4 A16.out).mono ?_); (case side1 => exact z39_); (case side2 => exact (Kd.V_reads' HO_0.out).2.1); (case side3 => repeat (first | exact z23_ | (with_reducible refine Kd.C_alloc ?_ _) | (with_reducible refine Kd.C_drewN ?_ _) | (with_reducible refine Kd.C_drew ?_))); (case side4 => exact HC280_0.out); rintro e w29 ⟨v282, rfl, ho0, hb⟩; refine ⟨_, rfl, ?_⟩; have n0_ := Aside0.mk (Kd.V_elder' z20_ (Kd.R_base ho0) hb); have n1_ := Aside0.mk (Kd.S_below z14_ hb); have n2_ := Aside0.mk (Kd.S_elder' z34_ (Kd.R_base ho0) hb); have n3_ := Aside0.mk (Kd.R_elder' z24_ (Kd.R_base ho0) hb); have n4_ := Aside0.mk (Kd.R_lower (Kd.R_new' (Kd.R_newM (M := fun k_ => (w.heap.size ≤ k_)) ho0 (below_size bx_) (fun k_ h_ => h_)) (Kd.R_lt z24_)) (below_size bx_)); have n5_ := Aside0.mk (Kd.C_below z23_ hb); have n6_ := Aside0.mk (below_step bx_ hb); clear HO_0; clear HO_5; clear HO_23; clear HL280_0; clear HR280_0; clear HB; have HO_0 := n0_; have HO_5 := n1_; have HO_23 := n2_; have HL280_0 := n3_; have HO283 := n4_; have HR280_0 := n5_; have HB := n6_; clear n0_ n1_ n2_ n3_ n4_ n5_ n6_; (try clear hb); (try clear hk); (try clear ho0); obtain ⟨Ao30, co30, eo30⟩ := Kd.R_slice HO283.out; subst eo30) | ((with_reducible refine gate_callee (f := 59) rfl ?_); refine goesL_ (some 35) rfl rfl Tryz.func59 (by kernel_rfl) rfl #[.slice Ao30 t281.length co30, .int .i64 (wrap64 (x4_2 - 1))] rfl gl_ ?_; (with_reducible refine (impl_canSplit.calls k3 _ _ t281 (wrap64 (x4_2 - 1)) false _ ?side1 ?side2 A17.out).mono ?_); (case side1 => repeat (first | exact (Kd.R_reads' HO283.out).2.2 | (with_reducible refine Kd.C_alloc ?_ _) | (with_reducible refine Kd.C_drewN ?_ _) | (with_reducible refine Kd.C_drew ?_))); (case side2 => exact (Kd.R_reads' HO283.out).2.1); rintro e w31 ⟨rfl, hb⟩; refine ⟨_, rfl, ?_⟩; have n0_ := Aside0.mk (Kd.V_below z20_ hb); have n1_ := Aside0.mk (Kd.S_below z14_ hb); have n2_ := Aside0.mk (Kd.S_below z34_ hb); have n3_ := Aside0.mk (Kd.R_below z24_ hb); have n4_ := Aside0.mk (Kd.R_below (kr_ HO283) hb); have n5_ := Aside0.mk (Kd.C_below z23_ hb); have n6_ := Aside0.mk (below_step bx_ hb); clear HO_0; clear HO_5; clear HO_23; clear HL280_0; clear HO283; clear HR280_0; clear HB; have HO_0 := n0_; have HO_5 := n1_; have HO_23 := n2_; have HL280_0 := n3_; have HO283 := n4_; have HR280_0 := n5_; have HB := n6_; clear n0_ n1_ n2_ n3_ n4_ n5_ n6_; (try clear hb); (try clear hk)))
              go_roundg k3
              case measure => have := HK1.out; have := HK2.out; have := HK3.out; omega
              case rel => exact ⟨(x0_3), (x5_3), (wrap64 (x25_3 + 1)), z2_, H', ⟨by have := HK1.out; have := HK2.out; have := HK3.out; omega⟩, ⟨by (with_reducible repeat (first | apply Kd.V_alloc | apply Kd.V_drewN | apply Kd.V_drew)); exact Kd.V_mono HO_0.out (fun _ hk => ⟨hk.1.1, ⟨hk.1.2.1, hk.1.2.2⟩⟩)⟩, ⟨z14_⟩, ⟨by (with_reducible repeat (first | apply Kd.S_alloc | apply Kd.S_drewN | apply Kd.S_drew)); exact Kd.S_mono HO_23.out (fun _ hk => hk.1)⟩, ⟨z4_⟩⟩
            ·rw [if_neg c15] at H
             exact absurd H (by simp)
           ·rw [if_neg c14] at H
            exact absurd H (by simp)
          ·rw [if_neg c13] at H
           have c13b0 : decide (x25_3 < (t277.length : Int)) = false := decide_eq_false c13
           clear c13
           have H' := Aside0.mk H
           clear H
           go_wp2
           go_roundg k3
           case measure => have := HK1.out; have := HK2.out; have := HK3.out; omega
           case rel => exact ⟨(x0_3), (wrap64 (x4_2 - 1)), (x5_3), z2_, H', ⟨by have := HK1.out; have := HK2.out; have := HK3.out; omega⟩, ⟨by (with_reducible repeat (first | apply Kd.V_alloc | apply Kd.V_drewN | apply Kd.V_drew)); exact Kd.V_mono HO_0.out (fun _ hk => ⟨hk.1, hk.2.1⟩)⟩, ⟨z14_⟩, ⟨z4_⟩⟩
       ·rw [if_neg c8] at H
        have c8b0 : decide (0 < x4_2) = false := decide_eq_false c8
        clear c8
        simp only [Option.some.injEq, Prod.mk.injEq] at H
        obtain ⟨rfl, rfl⟩ := H
        go_wp2
        go_ret2
        exact ⟨_, z7_, z14_, z4_⟩
    ·replace c6 := Bool.eq_false_iff.mpr c6
     subst c6
     have H1 : (impl_SplitTeams.l0 k1 l0 (wrap64 (x4_1 - 1))) = some (r1, r2) := by rw [if_neg (show ¬ (false = true) by decide)] at H; exact H
     clear H; have H := H1; clear H1
     have H' := Aside0.mk H
     clear H
     go_wp2_with (first | ((with_reducible refine gate_callee (f := 59) rfl ?_); refine goesL_ (some 14) rfl rfl Tryz.func59 (by kernel_rfl) rfl #[.slice A0 l0.length c0, .int .i64 x4_1] rfl gl_ ?_; (with_reducible refine (impl_canSplit.calls k1 _ _ l0 x4_1 false _ ?side1 ?side2 A5.out).mono ?_); (case side1 => exact z39_); (case side2 => exact (Kd.V_reads' HO_0.out).2.1); rintro e w32 ⟨rfl, hb⟩; refine ⟨_, rfl, ?_⟩; have n0_ := Aside0.mk (Kd.V_below z20_ hb); have n1_ := Aside0.mk (below_step bx_ hb); clear HO_0; clear HB; have HO_0 := n0_; have HB := n1_; clear n0_ n1_; (try clear hb); (try clear hk)))
     go_roundg k1
     case measure => have := HK1.out; omega
     case rel => exact ⟨(wrap64 (x4_1 - 1)), z2_, H', ⟨by have := HK1.out; omega⟩, ⟨z20_⟩, ⟨z4_⟩⟩
 ·replace c3 := Bool.eq_false_iff.mpr c3
  subst c3
  have H1 : (some (([] : List (List Int)), false)) = some (r1, r2) := by rw [if_neg (show ¬ (false = true) by decide)] at H; exact H
  clear H; have H := H1; clear H1
  simp only [Option.some.injEq, Prod.mk.injEq] at H
  obtain ⟨rfl, rfl⟩ := H
  go_enter Tryz.func24, Tryz.ntmps24
  go_wp2_with (first | ((with_reducible refine gate_callee (f := 21) rfl ?_); refine goesL_ (some 10) rfl rfl Tryz.func21 (by kernel_rfl) rfl #[.slice A0 l0.length c0] rfl gl_ ?_; (with_reducible refine (impl_ArePeople.calls k _ _ l0 false _ ?side1 ?side2 A2.out).mono ?_); (case side1 => exact z65_); (case side2 => exact (Kd.V_reads' HO0.out).2.1); rintro e w33 ⟨rfl, hb⟩; refine ⟨_, rfl, ?_⟩; have n0_ := Aside0.mk (Kd.V_below z57_ hb); have n1_ := Aside0.mk (below_step bx_ hb); clear HO0; clear HB; have HO0 := n0_; have HB := n1_; clear n0_ n1_; (try clear hb); (try clear hk)))
  go_ret2
  exact ⟨_, z7_, z56_, z4_⟩

/-! ### spec_l1In: function 65 -/
def spec_l1In.f (a0 : Int) (a1 : Int) (a2 : Int) : Option (Bool) := if a0 ≥ a1 then (some (decide (a0 ≤ a2))) else (some false)
set_option maxHeartbeats 8000000 in
set_option maxRecDepth 100000 in
theorem spec_l1In.calls (a0 : Int) (a1 : Int) (a2 : Int) (r : Bool) (w : World) (h : spec_l1In.f a0 a1 a2 = some r) :
  Calls Tryz.prog 65 #[.int .i64 a0, .int .i64 a1, .int .i64 a2] w fun e w' => e = .returned (.bool r) ∧ Drawn0 w w' := by
 have H : (if a0 ≥ a1 then (some (decide (a0 ≤ a2))) else (some false)) = some r := h
 clear h
 by_cases c4 : a0 ≥ a1
 ·rw [if_pos c4] at H
  have c4b0 : decide (a1 ≤ a0) = true := decide_eq_true c4
  clear c4
  obtain rfl := Option.some.inj H
  go_enter Tryz.func65, Tryz.ntmps65
  go_wp2
  go_ret
  exact ⟨z2_, z6_⟩
 ·rw [if_neg c4] at H
  have c4b0 : decide (a1 ≤ a0) = false := decide_eq_false c4
  clear c4
  obtain rfl := Option.some.inj H
  go_enter Tryz.func65, Tryz.ntmps65
  go_wp2
  go_ret
  exact ⟨z2_, z6_⟩

/-! ### spec_l5Skills: function 39 -/
def spec_l5Skills.f (a0 : Int) : Option (Bool) := (spec_l1In.f a0 0 15).bind fun t291 => (some t291)
set_option maxHeartbeats 8000000 in
set_option maxRecDepth 100000 in
theorem spec_l5Skills.calls (a0 : Int) (r : Bool) (w : World) (h : spec_l5Skills.f a0 = some r) :
  Calls Tryz.prog 39 #[.int .i64 a0] w fun e w' => e = .returned (.bool r) ∧ Drawn0 w w' := by
 have H : ((spec_l1In.f a0 0 15).bind fun t291 => (some t291)) = some r := h
 clear h; replace H := Option.bind_eq_some_iff.mp H; obtain ⟨t291, A20, H⟩ := H
 replace H : (some t291) = some r := H
 have A2 := Aside0.mk A20; clear A20
 obtain rfl := Option.some.inj H
 go_enter Tryz.func39, Tryz.ntmps39
 go_wp2_with (first | ((with_reducible refine gate_callee (f := 65) rfl ?_); refine goesL_ (some 4) rfl rfl Tryz.func65 (by kernel_rfl) rfl #[.int .i64 a0, .int .i64 0, .int .i64 15] rfl gl_ ?_; (with_reducible refine (spec_l1In.calls a0 0 15 t291 _ A2.out).mono ?_); rintro e w' ⟨rfl, ⟨nd, rfl⟩⟩; refine ⟨_, rfl, ?_⟩))
 go_ret
 exact ⟨z2_, z6_⟩

/-! ### spec_l2Word: function 66 -/
def spec_l2Word.l0 : Nat → ByteArray → Int → Option (Bool)
 | 0, _, _ => none
 | k + 1, x0, x3 => if x3 < (x0.size : Int) then (if 0 ≤ x3 then (if (bt x0 x3) < 97 then (some false) else (if (bt x0 x3) > 122 then (some false) else (spec_l2Word.l0 k x0 (wrap64 (x3 + 1))))) else (none)) else ((spec_l1In.f (x0.size : Int) 1 10).bind fun t292 => (some t292))
def spec_l2Word.f (k : Nat) (a0 : ByteArray) : Option (Bool) := spec_l2Word.l0 k a0 0
set_option maxHeartbeats 8000000 in
set_option maxRecDepth 100000 in
theorem spec_l2Word.calls (k : Nat) (a0 : ByteArray) (r : Bool) (w : World) (h : spec_l2Word.f k a0 = some r) :
  Calls Tryz.prog 66 #[.string a0] w fun e w' => e = .returned (.bool r) ∧ Drawn0 w w' := by
 have H : (spec_l2Word.l0 k a0 0) = some r := h
 clear h
 have H' := Aside0.mk H
 clear H
 go_enter Tryz.func66, Tryz.ntmps66
 go_wp2
 go_loopg [3] k (fun kq v3 w' => ∃ (x3_1 : Int), v3 = .int .i64 x3_1 ∧ Aside0 (spec_l2Word.l0 kq a0 x3_1 = some r) ∧ Aside0 (kq ≤ k) ∧ Drawn0 w w')
 case atStart => exact ⟨(0), z2_, H', ⟨Nat.le_refl _⟩, z6_⟩
 case round =>
  clear H'
  obtain ⟨x3_1, rfl, HA, HK1, ⟨m1, rfl⟩⟩ := hrel
  cases gk with
  | zero => exact absurd HA.out (by simp [spec_l2Word.l0])
  | succ k1 =>
   have H := HA.out; clear HA
   simp only [spec_l2Word.l0] at H
   by_cases c2 : x3_1 < (a0.size : Int)
   ·rw [if_pos c2] at H
    have c2b0 : decide (x3_1 < (a0.size : Int)) = true := decide_eq_true c2
    clear c2
    by_cases c3 : 0 ≤ x3_1
    ·rw [if_pos c3] at H
     have c3b0 : decide (0 ≤ x3_1) = true := decide_eq_true c3
     clear c3
     by_cases c5 : (bt a0 x3_1) < 97
     ·rw [if_pos c5] at H
      have c5b0 : decide ((bt a0 x3_1) < 97) = true := decide_eq_true c5
      clear c5
      obtain rfl := Option.some.inj H
      have p4 : 0 ≤ (x3_1 : Int) := od_
      have q4 : x3_1 < (a0.size : Int) := od_
      have hx4 := bt_at a0 x3_1
      replace p4 := eq_true p4
      replace q4 := eq_true q4
      go_wp2
      go_ret
      exact ⟨z2_, z6_⟩
     ·rw [if_neg c5] at H
      have c5b0 : decide ((bt a0 x3_1) < 97) = false := decide_eq_false c5
      clear c5
      by_cases c7 : (bt a0 x3_1) > 122
      ·rw [if_pos c7] at H
       have c7b0 : decide (122 < (bt a0 x3_1)) = true := decide_eq_true c7
       clear c7
       obtain rfl := Option.some.inj H
       have p4 : 0 ≤ (x3_1 : Int) := od_
       have q4 : x3_1 < (a0.size : Int) := od_
       have hx4 := bt_at a0 x3_1
       replace p4 := eq_true p4
       replace q4 := eq_true q4
       have p6 : 0 ≤ (x3_1 : Int) := od_
       have q6 : x3_1 < (a0.size : Int) := od_
       have hx6 := bt_at a0 x3_1
       replace p6 := eq_true p6
       replace q6 := eq_true q6
       go_wp2
       go_ret
       exact ⟨z2_, z6_⟩
      ·rw [if_neg c7] at H
       have c7b0 : decide (122 < (bt a0 x3_1)) = false := decide_eq_false c7
       clear c7
       have H' := Aside0.mk H
       clear H
       have p4 : 0 ≤ (x3_1 : Int) := od_
       have q4 : x3_1 < (a0.size : Int) := od_
       have hx4 := bt_at a0 x3_1
       replace p4 := eq_true p4
       replace q4 := eq_true q4
       have p6 : 0 ≤ (x3_1 : Int) := od_
       have q6 : x3_1 < (a0.size : Int) := od_
       have hx6 := bt_at a0 x3_1
       replace p6 := eq_true p6
       replace q6 := eq_true q6
       go_wp2
       go_roundg k1
       case measure => have := HK1.out; omega
       case rel => exact ⟨(wrap64 (x3_1 + 1)), z2_, H', ⟨by have := HK1.out; omega⟩, z6_⟩
    ·rw [if_neg c3] at H
     exact absurd H (by simp)
   ·rw [if_neg c2] at H
    have c2b0 : decide (x3_1 < (a0.size : Int)) = false := decide_eq_false c2
    clear c2; replace H := Option.bind_eq_some_iff.mp H; obtain ⟨t292, A80, H⟩ := H
    replace H : (some t292) = some r := H
    have A8 := Aside0.mk A80; clear A80
    obtain rfl := Option.some.inj H
    go_wp2_with (first | ((with_reducible refine gate_callee (f := 65) rfl ?_); refine goesL_ (some 22) rfl rfl Tryz.func65 (by kernel_rfl) rfl #[.int .i64 (a0.size : Int), .int .i64 1, .int .i64 10] rfl gl_ ?_; (with_reducible refine (spec_l1In.calls (a0.size : Int) 1 10 t292 _ A8.out).mono ?_); rintro e w' ⟨rfl, ⟨nd, rfl⟩⟩; refine ⟨_, rfl, ?_⟩))
    go_ret
    exact ⟨z2_, z6_⟩

end Go.Proofs.YtafdklajmklmkaaGreatDoor.XFnTeamCounts
