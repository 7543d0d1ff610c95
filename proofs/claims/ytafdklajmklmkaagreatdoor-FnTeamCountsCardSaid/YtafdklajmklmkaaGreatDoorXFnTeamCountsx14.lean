/- Contracts of the functions that the law FnTeamCounts comes to: each is told as a plain function of its arguments, and the machine's call does what that function says; no condition. Written by programs (print.py, xprint.py); Lean checks it. -/
import Derived.Test.YtafdklajmklmkaaGreatDoorXFnTeamCountsx0
import Derived.Test.YtafdklajmklmkaaGreatDoorXFnTeamCountsx4
import Derived.Test.YtafdklajmklmkaaGreatDoorXFnTeamCountsx5
import Derived.Test.YtafdklajmklmkaaGreatDoorXFnTeamCountsx9
import Derived.Test.YtafdklajmklmkaaGreatDoorXFnTeamCountsx10
namespace Go.Proofs.YtafdklajmklmkaaGreatDoor.XFnTeamCounts
open Go.RowKit Go.Proofs.YtafdklajmklmkaaGreatDoorW.PrintWords Go.Proofs.YtafdklajmklmkaaGreatDoorW.PrintLast Go.Proofs.YtafdklajmklmkaaGreatDoorW.PrintMore
open List renaming setIfInBounds_toArray → zA, set_cons_zero → zB, set_cons_succ → zC
attribute [local go_sem] max2_int min2_int max_two min_two max_three min_three max_four min_four   -- for this text's walks alone
set_option linter.unusedVariables false
set_option linter.unusedSimpArgs false

/-! ### spec_WithSkills: function 31 -/
mutual
def spec_WithSkills.j0 : Nat → List (S41) → Int → List Int → Bool → Option (List Int × Bool)
 | 0, _, _, _, _ => none
 | k + 1, x0, x1, x6, x16 => if x16 = true then (some (x6, false)) else (spec_WithSkills.l0 k x0 x1 x6 0)
def spec_WithSkills.l0 : Nat → List (S41) → Int → List Int → Int → Option (List Int × Bool)
 | 0, _, _, _, _ => none
 | k + 1, x0, x1, x6, x7 => if x7 < (x0.length : Int) then (if 0 ≤ x7 then (if (Go.bits .and .i64 ((rd_T41 x0 x7).f2) x1) = x1 then (if x6.length < 17592186044416 then (spec_WithSkills.l0 k x0 x1 (x6 ++ [(rd_T41 x0 x7).f0]) (wrap64 (x7 + 1))) else (none)) else (spec_WithSkills.l0 k x0 x1 x6 (wrap64 (x7 + 1)))) else (none)) else (some (x6, true))
end
def spec_WithSkills.f (k : Nat) (l0 : List (S41)) (a1 : Int) : Option (List Int × Bool) := (some (([] : List Int) : List Int)).bind fun y380 => ((spec_l5Good.f k l0).bind fun t383 => (if t383 = true then ((spec_l5Skills.f a1).bind fun t384 => (spec_WithSkills.j0 k l0 a1 y380 (!t384))) else (spec_WithSkills.j0 k l0 a1 y380 true)))
set_option maxHeartbeats 8000000 in
set_option maxRecDepth 100000 in
theorem spec_WithSkills.calls (k : Nat) (A0 : Option Addr) (c0 : Nat) (l0 : List (S41)) (a1 : Int) (r1 : List Int) (r2 : Bool) (w : World) (hr0 : Kd.C k41 w A0 l0.length l0) (hc0 : l0.length ≤ c0) (h : spec_WithSkills.f k l0 a1 = some (r1, r2)) :
  Calls Tryz.prog 31 #[.slice A0 l0.length c0, .int .i64 a1] w fun e w' => ∃ v0_ : Value, e = .returned (.tuple #[v0_, .bool r2]) ∧ Kd.R (Kd.int .i64) 3 w' w.heap.size (fun _ => True) v0_ r1 ∧ Below w.heap.size w w' := by
 have HR0 := Aside0.mk hr0; have HC0 := Aside0.mk hc0; clear hr0 hc0
 have HB := Aside0.mk (Below.refl w.heap.size w)
 have H : ((some (([] : List Int) : List Int)).bind fun y380 => ((spec_l5Good.f k l0).bind fun t383 => (if t383 = true then ((spec_l5Skills.f a1).bind fun t384 => (spec_WithSkills.j0 k l0 a1 y380 (!t384))) else (spec_WithSkills.j0 k l0 a1 y380 true)))) = some (r1, r2) := h
 clear h
 obtain ⟨y380, hy380⟩ : ∃ y_ : List Int, y_ = (([] : List Int)) := ⟨_, rfl⟩
 replace H : ((spec_l5Good.f k l0).bind fun t383 => (if t383 = true then ((spec_l5Skills.f a1).bind fun t384 => (spec_WithSkills.j0 k l0 a1 y380 (!t384))) else (spec_WithSkills.j0 k l0 a1 y380 true))) = some (r1, r2) := by first | (rw [hy380]; with_reducible exact H) | (have H2_ := (Option.bind_some _ _).symm.trans H; rw [hy380]; with_reducible exact H2_) | (have H2_ := (Option.bind_some _ _).symm.trans H; with_reducible exact H2_) | with_reducible exact H | (rw [hy380]; exact H) | exact H
 have Ny380 := Aside0.mk hy380; clear hy380; have HC3 := Aside0.mk H; clear H
 go_enter Tryz.func31, Tryz.ntmps31
 go_upto_region 2 with (first | ((with_reducible refine gate_dst (N := 8) rfl ?_); refine Kd.R_lit (Kd.int .i64) _ 3 ?hg (N := 8) ?hd (xs := ([] : List Int)) (inner := []) (ok := fun _ => True) (okp := fun _ => True) ?hr ?hp (fun _ hk => hk) trivial (Below.refl _ _) (Nat.le_refl _) (by simp) ?_; (case hd => rfl); (case hg => rfl); (case hr => first | (go_simp; done) | (go_simp; rfl)); (case hp => exact (Reps.none _ _)); intro v381 w4 ho5 hb hg_ hnew_; clear hg_ hnew_; (first | rw [← Ny380.out] at ho5 | (simp only [Int.reduceToNat] at ho5; rw [← Ny380.out] at ho5)); have n0_ := Aside0.mk (Kd.R_lower ho5 (below_size bx_)); have n1_ := Aside0.mk (below_step bx_ hb); clear HB; have HO382 := n0_; have HB := n1_; clear n0_ n1_; clear hb ho5))
 (try simp only [Act.put, zA, zB, zC])
 go_cut [16] (fun v16 wc => ∃ (kq : Nat) (x16_2 : Bool), v16 = .bool x16_2 ∧ Aside0 (spec_WithSkills.j0 kq l0 a1 y380 x16_2 = some (r1, r2)) ∧ Aside0 (kq ≤ k) ∧ Aside0 (Kd.R (Kd.int .i64) 3 wc w.heap.size (fun _ => True) v381 y380) ∧ Aside0 (Below w.heap.size w wc))
 case first =>
  have H := HC3.out; clear HC3; replace H := Option.bind_eq_some_iff.mp H; obtain ⟨t383, A60, H⟩ := H
  replace H : (if t383 = true then ((spec_l5Skills.f a1).bind fun t384 => (spec_WithSkills.j0 k l0 a1 y380 (!t384))) else (spec_WithSkills.j0 k l0 a1 y380 true)) = some (r1, r2) := H
  have A6 := Aside0.mk A60; clear A60
  by_cases c7 : t383 = true
  ·subst c7
   have H1 : ((spec_l5Skills.f a1).bind fun t384 => (spec_WithSkills.j0 k l0 a1 y380 (!t384))) = some (r1, r2) := by rw [if_pos rfl] at H; exact H
   clear H; have H := H1; clear H1; replace H := Option.bind_eq_some_iff.mp H; obtain ⟨t384, A80, H⟩ := H
   replace H : (spec_WithSkills.j0 k l0 a1 y380 (!t384)) = some (r1, r2) := H
   have A8 := Aside0.mk A80; clear A80
   have H' := Aside0.mk H
   clear H
   go_wp2_with (first | ((with_reducible refine gate_callee (f := 38) rfl ?_); refine goesL_ (some 10) rfl rfl Tryz.func38 (by kernel_rfl) rfl #[.slice A0 l0.length c0] rfl gl_ ?_; (with_reducible refine (spec_l5Good.calls k _ _ l0 true _ ?side1 ?side2 A6.out).mono ?_); (case side1 => exact z11_); (case side2 => exact HC0.out); rintro e w9 ⟨rfl, hb⟩; refine ⟨_, rfl, ?_⟩; have n0_ := Aside0.mk (Kd.R_below (kr_ HO382) hb); have n1_ := Aside0.mk (below_step bx_ hb); clear HO382; clear HB; have HO382 := n0_; have HB := n1_; clear n0_ n1_; (try clear hb); (try clear hk); (try clear hi)) | (go_at_call 39; (with_reducible refine (spec_l5Skills.calls a1 t384 _ A8.out).mono ?_); rintro e w' ⟨rfl, ⟨nd, rfl⟩⟩))
   go_meet
   case rel => exact ⟨_, (!t384), z2_, H', ⟨z26_⟩, ⟨by (with_reducible repeat (first | apply Kd.R_alloc | apply Kd.R_drewN | apply Kd.R_drew)); exact HO382.out⟩, ⟨z4_⟩⟩
  ·replace c7 := Bool.eq_false_iff.mpr c7
   subst c7
   have H1 : (spec_WithSkills.j0 k l0 a1 y380 true) = some (r1, r2) := by rw [if_neg (show ¬ (false = true) by decide)] at H; exact H
   clear H; have H := H1; clear H1
   have H' := Aside0.mk H
   clear H
   go_wp2_with (first | ((with_reducible refine gate_callee (f := 38) rfl ?_); refine goesL_ (some 10) rfl rfl Tryz.func38 (by kernel_rfl) rfl #[.slice A0 l0.length c0] rfl gl_ ?_; (with_reducible refine (spec_l5Good.calls k _ _ l0 false _ ?side1 ?side2 A6.out).mono ?_); (case side1 => exact z11_); (case side2 => exact HC0.out); rintro e w10 ⟨rfl, hb⟩; refine ⟨_, rfl, ?_⟩; have n0_ := Aside0.mk (Kd.R_below (kr_ HO382) hb); have n1_ := Aside0.mk (below_step bx_ hb); clear HO382; clear HB; have HO382 := n0_; have HB := n1_; clear n0_ n1_; (try clear hb); (try clear hk); (try clear hi)))
   go_meet
   case rel => exact ⟨_, (true), z2_, H', ⟨z26_⟩, ⟨by (with_reducible repeat (first | apply Kd.R_alloc | apply Kd.R_drewN | apply Kd.R_drew)); exact HO382.out⟩, ⟨z4_⟩⟩
 case rest =>
  clear HC3; (try clear c7); obtain ⟨kq, x16_2, rfl, HA, HJ2, HO_6, HB⟩ := hcut
  cases kq with
  | zero => exact absurd HA.out (by simp [spec_WithSkills.j0])
  | succ kj2 =>
   have H := HA.out; clear HA
   simp only [spec_WithSkills.j0] at H
   by_cases c11 : x16_2 = true
   ·subst c11
    have H1 : (some (y380, false)) = some (r1, r2) := by rw [if_pos rfl] at H; exact H
    clear H; have H := H1; clear H1
    simp only [Option.some.injEq, Prod.mk.injEq] at H
    obtain ⟨rfl, rfl⟩ := H
    go_wp2
    go_ret2
    exact ⟨_, z7_, z41_, z4_⟩
   ·replace c11 := Bool.eq_false_iff.mpr c11
    subst c11
    have H1 : (spec_WithSkills.l0 kj2 l0 a1 y380 0) = some (r1, r2) := by rw [if_neg (show ¬ (false = true) by decide)] at H; exact H
    clear H; have H := H1; clear H1
    have H' := Aside0.mk H
    clear H
    go_wp2
    go_loopg [6, 7] kj2 (fun kq v6 v7 w' => ∃ (x6_2 : List Int) (x7_2 : Int), v7 = .int .i64 x7_2 ∧ Aside0 (spec_WithSkills.l0 kq l0 a1 x6_2 x7_2 = some (r1, r2)) ∧ Aside0 (kq ≤ kj2) ∧ Aside0 (Kd.R (Kd.int .i64) 3 w' w.heap.size (fun _ => True) v6 x6_2) ∧ Aside0 (Below w.heap.size w w'))
    case atStart => exact ⟨(y380), (0), z2_, H', ⟨Nat.le_refl _⟩, ⟨z41_⟩, ⟨z4_⟩⟩
    case round =>
     clear H'
     (try clear c7); (try clear c11); obtain ⟨x6_2, x7_2, rfl, HA, HK2, HO_6, HB⟩ := hrel
     cases gk with
     | zero => exact absurd HA.out (by simp [spec_WithSkills.l0])
     | succ k2 =>
      have H := HA.out; clear HA
      simp only [spec_WithSkills.l0] at H
      by_cases c12 : x7_2 < (l0.length : Int)
      ·rw [if_pos c12] at H
       have c12b0 : decide (x7_2 < (l0.length : Int)) = true := decide_eq_true c12
       clear c12
       by_cases c13 : 0 ≤ x7_2
       ·rw [if_pos c13] at H
        have c13b0 : decide (0 ≤ x7_2) = true := decide_eq_true c13
        clear c13
        by_cases c14 : (Go.bits .and .i64 ((rd_T41 l0 x7_2).f2) a1) = a1
        ·rw [if_pos c14] at H
         have c14b0 : ((Go.bits .and .i64 ((rd_T41 l0 x7_2).f2) a1) == a1) = true := beq_iff_eq.mpr c14
         have c14b1 : ((Go.bits .and .i64 ((rd_T41 l0 x7_2).f2) a1) != a1) = false := bne_eq_false_iff_eq.mpr c14
         clear c14
         by_cases c15 : x6_2.length < 17592186044416
         ·rw [if_pos c15] at H
          have LMc15 := Aside0.mk c15; clear c15
          obtain ⟨y387, hy387⟩ : ∃ y_ : List Int, y_ = (x6_2 ++ [(rd_T41 l0 x7_2).f0]) := ⟨_, rfl⟩
          replace H : (spec_WithSkills.l0 k2 l0 a1 y387 (wrap64 (x7_2 + 1))) = some (r1, r2) := by first | (rw [hy387]; with_reducible exact H) | (have H2_ := (Option.bind_some _ _).symm.trans H; rw [hy387]; with_reducible exact H2_) | (have H2_ := (Option.bind_some _ _).symm.trans H; with_reducible exact H2_) | with_reducible exact H | (rw [hy387]; exact H) | exact H
          have Ny387 := Aside0.mk hy387; clear hy387
          have H' := Aside0.mk H
          clear H
          have p385 : 0 ≤ (x7_2 : Int) := od_
          have q385 : x7_2 < (l0.length : Int) := od_
          obtain ⟨ad385, e385, hx385_0, hx385_1, hx385_2, hx385_3⟩ := at_T41 HR0.out x7_2 p385 q385
          cases e385
          replace hx385_0 := (HB.out.cell (World.block_lt_of_cell? w _ hx385_0)).trans hx385_0
          replace hx385_1 := (HB.out.cell (World.block_lt_of_cell? w _ hx385_1)).trans hx385_1
          replace hx385_2 := (HB.out.cell (World.block_lt_of_cell? w _ hx385_2)).trans hx385_2
          replace hx385_3 := (HB.out.cell (World.block_lt_of_cell? w _ hx385_3)).trans hx385_3
          replace p385 := eq_true p385
          replace q385 := eq_true q385
          have p386 : 0 ≤ (x7_2 : Int) := od_
          have q386 : x7_2 < (l0.length : Int) := od_
          obtain ⟨ad386, e386, hx386_0, hx386_1, hx386_2, hx386_3⟩ := at_T41 HR0.out x7_2 p386 q386
          obtain rfl : ad385 = ad386 := (by injection e386)
          replace hx386_0 := (HB.out.cell (World.block_lt_of_cell? w _ hx386_0)).trans hx386_0
          replace hx386_1 := (HB.out.cell (World.block_lt_of_cell? w _ hx386_1)).trans hx386_1
          replace hx386_2 := (HB.out.cell (World.block_lt_of_cell? w _ hx386_2)).trans hx386_2
          replace hx386_3 := (HB.out.cell (World.block_lt_of_cell? w _ hx386_3)).trans hx386_3
          replace p386 := eq_true p386
          replace q386 := eq_true q386
          go_wp2_with (first | ((with_reducible refine gate_builtin (b := .append) (xs := #[.tmp 33, .tmp 39]) rfl ?_); at_builtin; refine Kd.R_append (Kd.int .i64) (w0 := w) w.heap.size rfl (.tmp 33) (.tmp 39) 27 3 (.int .i64 0) 8 rfl Tryz.underlying27 info3 rfl (by decide) (by omega) u6 x6_2 ((rd_T41 l0 x7_2).f0) [.int .i64 ((rd_T41 l0 x7_2).f0)] (fun _ => True) (fun _ => False) rfl rfl ?aP (fun _ hk => hk.elim) ?aF ?aO ?aB ?aS ?aL ?_; (case aP => exact rfl); (case aB => exact bx_); (case aF => exact (fun _ _ => trivial)); (case aO => exact (kr_ HO_6)); (case aS => exact (below_size bx_)); (case aL => have := LMc15.out; omega); intro v388 w16 ho hb hg hat; rw [← Ny387.out] at ho; have n0_ := Aside0.mk (hb); have n1_ := Aside0.mk (ho); clear HB; clear HO_6; have HB := n0_; have HO389 := n1_; clear n0_ n1_; clear ho hb hg hat))
          go_roundg k2
          case measure => have := HJ2.out; have := HK2.out; omega
          case rel => exact ⟨(y387), (wrap64 (x7_2 + 1)), z2_, H', ⟨by have := HJ2.out; have := HK2.out; omega⟩, ⟨by (with_reducible repeat (first | apply Kd.R_alloc | apply Kd.R_drewN | apply Kd.R_drew)); exact HO389.out⟩, ⟨z4_⟩⟩
         ·rw [if_neg c15] at H
          exact absurd H (by simp)
        ·rw [if_neg c14] at H
         have c14b0 : ((Go.bits .and .i64 ((rd_T41 l0 x7_2).f2) a1) == a1) = false := beq_eq_false_iff_ne.mpr c14
         have c14b1 : ((Go.bits .and .i64 ((rd_T41 l0 x7_2).f2) a1) != a1) = true := bne_iff_ne.mpr c14
         have H' := Aside0.mk H
         clear H
         have p385 : 0 ≤ (x7_2 : Int) := od_
         have q385 : x7_2 < (l0.length : Int) := od_
         obtain ⟨ad385, e385, hx385_0, hx385_1, hx385_2, hx385_3⟩ := at_T41 HR0.out x7_2 p385 q385
         cases e385
         replace hx385_0 := (HB.out.cell (World.block_lt_of_cell? w _ hx385_0)).trans hx385_0
         replace hx385_1 := (HB.out.cell (World.block_lt_of_cell? w _ hx385_1)).trans hx385_1
         replace hx385_2 := (HB.out.cell (World.block_lt_of_cell? w _ hx385_2)).trans hx385_2
         replace hx385_3 := (HB.out.cell (World.block_lt_of_cell? w _ hx385_3)).trans hx385_3
         replace p385 := eq_true p385
         replace q385 := eq_true q385
         go_wp2
         go_roundg k2
         case measure => have := HJ2.out; have := HK2.out; omega
         case rel => exact ⟨(x6_2), (wrap64 (x7_2 + 1)), z2_, H', ⟨by have := HJ2.out; have := HK2.out; omega⟩, ⟨z41_⟩, ⟨z4_⟩⟩
       ·rw [if_neg c13] at H
        exact absurd H (by simp)
      ·rw [if_neg c12] at H
       have c12b0 : decide (x7_2 < (l0.length : Int)) = false := decide_eq_false c12
       clear c12
       simp only [Option.some.injEq, Prod.mk.injEq] at H
       obtain ⟨rfl, rfl⟩ := H
       go_wp2
       go_ret2
       exact ⟨_, z7_, z41_, z4_⟩

/-! ### spec_l1Cur_one: function 76 -/
def spec_l1Cur_one.f (s0_0 : List Int) (s0_1 : Int) (s0_2 : Int) (a1 : Int) : Option (Bool × Int × Int) := (spec_l1Cur_pick.f s0_0 s0_1 s0_2 a1).bind fun bt390 => (some ((bt390.1 == 0), bt390.2.1, bt390.2.2))
set_option maxHeartbeats 8000000 in
set_option maxRecDepth 100000 in
theorem spec_l1Cur_one.calls (g : Nat) (s0_0 : List Int) (s0_1 : Int) (s0_2 : Int) (a1 : Int) (r1 : Bool) (r2 : Int) (r3 : Int) (w0 w : World) (hI : IsS68 w0 w g s0_0 s0_1 s0_2) (hB : Below w0.heap.size w0 w) (h : spec_l1Cur_one.f s0_0 s0_1 s0_2 a1 = some (r1, r2, r3)) :
  Calls Tryz.prog 76 #[.pointer (some ⟨g, 0, none⟩), .int .i64 a1] w fun e w' => e = .returned (.bool r1) ∧ IsS68 w0 w' g s0_0 r2 r3 ∧ Below w0.heap.size w0 w' ∧ KeepBut w w' g none := by
 have HI0 := Aside0.mk hI
 have HK := Aside0.mk (KeepBut.refl w g none)
 have HL := Aside0.mk hB.size; clear hI; have HW0 := Aside0.mk hB.size; have HB := Aside0.mk hB; clear hB
 have H : ((spec_l1Cur_pick.f s0_0 s0_1 s0_2 a1).bind fun bt390 => (some ((bt390.1 == 0), bt390.2.1, bt390.2.2))) = some (r1, r2, r3) := h
 clear h; replace H := Option.bind_eq_some_iff.mp H; obtain ⟨⟨t390, t391, t392⟩, A30, H⟩ := H
 replace H : (some ((t390 == 0), t391, t392)) = some (r1, r2, r3) := H
 have A3 := Aside0.mk A30; clear A30
 simp only [Option.some.injEq, Prod.mk.injEq] at H
 obtain ⟨rfl, rfl, rfl⟩ := H
 go_enter Tryz.func76, Tryz.ntmps76
 go_wp2_with (first | ((with_reducible refine gate_callee (f := 73) rfl ?_); refine goesL_ (some 7) rfl rfl Tryz.func73 (by kernel_rfl) rfl #[.pointer (some ⟨g, 0, none⟩), .int .i64 a1] rfl gl_ ?_; (with_reducible refine (spec_l1Cur_pick.calls g s0_0 s0_1 s0_2 a1 t390 t391 t392 w0 _ ?side1 ?side2 A3.out).mono ?_); (case side1 => exact z3_); (case side2 => exact z9_); rintro e w4 ⟨rfl, hi, hb, hk⟩; refine ⟨_, rfl, ?_⟩; have n0_ := Aside0.mk (KeepBut.trans z5_ hk (.inl rfl)); have n1_ := Aside0.mk (hb); have n2_ := Aside0.mk (hi); clear HK; clear HB; clear HI0; have HK := n0_; have HB := n1_; have HI0 := n2_; clear n0_ n1_ n2_; (try clear hb); (try clear hk); (try clear hi)))
 go_ret
 exact ⟨z7_, z3_, z9_, z5_⟩

/-! ### spec_l1Cur_team: function 53 -/
def spec_l1Cur_team.l0 : Nat → List (S41) → List Int → Int → List Int → Int → Int → Option (List Int × Int × Int)
 | 0, _, _, _, _, _, _ => none
 | k + 1, x1, x5, x6, x1000, x1001, x1002 => if x6 < (x1.length : Int) then ((spec_l1Cur_one.f x1000 x1001 x1002 2).bind fun bt396 => (if bt396.1 = true then (if 0 ≤ x6 then (if x5.length < 17592186044416 then (spec_l1Cur_team.l0 k x1 (x5 ++ [(rd_T41 x1 x6).f0]) (wrap64 (x6 + 1)) x1000 bt396.2.1 bt396.2.2) else (none)) else (none)) else (spec_l1Cur_team.l0 k x1 x5 (wrap64 (x6 + 1)) x1000 bt396.2.1 bt396.2.2))) else ((spec_l1Cur_pick.f x1000 x1001 x1002 24).bind fun bt403 => (if bt403.1 = 0 then ((spec_l1Cur_among.f x1000 bt403.2.1 bt403.2.2 (([0, 1, 98] : List Int))).bind fun bt409 => (if x5.length < 17592186044416 then (some ((x5 ++ [bt409.1]), bt409.2.1, bt409.2.2)) else (none))) else (if bt403.1 = 1 then (if (x5.length : Int) > 1 then (if 1 < (x5.length : Int) then (if 0 < (x5.length : Int) then (some ((x5.set (0 : Int).toNat (rd x5 1)), bt403.2.1, bt403.2.2)) else (none)) else (none)) else (some (x5, bt403.2.1, bt403.2.2))) else (some (x5, bt403.2.1, bt403.2.2)))))
def spec_l1Cur_team.f (k : Nat) (s0_0 : List Int) (s0_1 : Int) (s0_2 : Int) (l1 : List (S41)) : Option (List Int × Int × Int) := spec_l1Cur_team.l0 k l1 (([] : List Int)) 0 s0_0 s0_1 s0_2
set_option maxHeartbeats 8000000 in
set_option maxRecDepth 100000 in
theorem spec_l1Cur_team.calls (k : Nat) (g : Nat) (s0_0 : List Int) (s0_1 : Int) (s0_2 : Int) (A1 : Option Addr) (c1 : Nat) (l1 : List (S41)) (r1 : List Int) (r2 : Int) (r3 : Int) (w0 w : World) (hI : IsS68 w0 w g s0_0 s0_1 s0_2) (hB : Below w0.heap.size w0 w) (hr1 : ∀ W_, KeepBut w W_ g none → Kd.C k41 W_ A1 l1.length l1) (hc1 : l1.length ≤ c1) (h : spec_l1Cur_team.f k s0_0 s0_1 s0_2 l1 = some (r1, r2, r3)) :
  Calls Tryz.prog 53 #[.pointer (some ⟨g, 0, none⟩), .slice A1 l1.length c1] w fun e w' => ∃ v0_ : Value, e = .returned (v0_) ∧ Kd.R (Kd.int .i64) 3 w' w.heap.size (fun _ => True) v0_ r1 ∧ IsS68 w0 w' g s0_0 r2 r3 ∧ Below w0.heap.size w0 w' ∧ KeepBut w w' g none := by
 have HR1 := Aside0.mk hr1; have HC1 := Aside0.mk hc1; clear hr1 hc1; have HI0 := Aside0.mk hI
 have HK := Aside0.mk (KeepBut.refl w g none)
 have HL := Aside0.mk hB.size; clear hI; have HW0 := Aside0.mk hB.size; have HB := Aside0.mk hB; clear hB
 have H : (spec_l1Cur_team.l0 k l1 (([] : List Int)) 0 s0_0 s0_1 s0_2) = some (r1, r2, r3) := h
 clear h
 obtain ⟨y393, hy393⟩ : ∃ y_ : List Int, y_ = (([] : List Int)) := ⟨_, rfl⟩
 replace H : (spec_l1Cur_team.l0 k l1 y393 0 s0_0 s0_1 s0_2) = some (r1, r2, r3) := by first | (rw [hy393]; with_reducible exact H) | (have H2_ := (Option.bind_some _ _).symm.trans H; rw [hy393]; with_reducible exact H2_) | (have H2_ := (Option.bind_some _ _).symm.trans H; with_reducible exact H2_) | with_reducible exact H | (rw [hy393]; exact H) | exact H
 have Ny393 := Aside0.mk hy393; clear hy393
 have H' := Aside0.mk H
 clear H
 go_enter Tryz.func53, Tryz.ntmps53
 go_wp2_with (first | ((with_reducible refine gate_dst (N := 7) rfl ?_); refine Kd.R_lit (Kd.int .i64) _ 3 ?hg (N := 7) ?hd (xs := ([] : List Int)) (inner := []) (ok := fun _ => True) (okp := fun _ => True) ?hr ?hp (fun _ hk => hk) trivial (Below.refl _ _) (Nat.le_refl _) (by simp) ?_; (case hd => rfl); (case hg => rfl); (case hr => first | (go_simp; done) | (go_simp; rfl)); (case hp => exact (Reps.none _ _)); intro v394 w3 ho4 hb hg_ hnew_; clear hg_ hnew_; (first | rw [← Ny393.out] at ho4 | (simp only [Int.reduceToNat] at ho4; rw [← Ny393.out] at ho4)); have n0_ := Aside0.mk (Kd.R_lower ho4 (keep_size (w := w) (g := g) (row := none) z5_)); have n1_ := Aside0.mk (IsS68.below z3_ hb); have n2_ := Aside0.mk (KeepBut.trans z5_ (KeepBut.of_below hb g none) (.inl rfl)); have n3_ := Aside0.mk (below_step z9_ hb); clear HI0; clear HK; clear HB; have HO395 := n0_; have HI0 := n1_; have HK := n2_; have HB := n3_; clear n0_ n1_ n2_ n3_; clear hb ho4))
 go_loopg [5, 6] k (fun kq v5 v6 w' => ∃ (x5_1 : List Int) (x6_1 : Int) (x1001_1 : Int) (x1002_1 : Int), v6 = .int .i64 x6_1 ∧ Aside0 (spec_l1Cur_team.l0 kq l1 x5_1 x6_1 s0_0 x1001_1 x1002_1 = some (r1, r2, r3)) ∧ Aside0 (kq ≤ k) ∧ Aside0 (Kd.R (Kd.int .i64) 3 w' w.heap.size (fun _ => True) v5 x5_1) ∧ Aside0 (IsS68 w0 w' g s0_0 x1001_1 x1002_1) ∧ Aside0 (KeepBut w w' g none) ∧ Aside0 (Below w0.heap.size w0 w'))
 case atStart => exact ⟨(y393), (0), (s0_1), (s0_2), z2_, H', ⟨Nat.le_refl _⟩, ⟨by (with_reducible repeat (first | apply Kd.R_alloc | apply Kd.R_drewN | apply Kd.R_drew)); exact HO395.out⟩, ⟨z3_⟩, ⟨z5_⟩, ⟨z9_⟩⟩
 case round =>
  clear H'
  obtain ⟨x5_1, x6_1, x1001_1, x1002_1, rfl, HA, HK1, HO_5, HI0, HK, HB⟩ := hrel
  cases gk with
  | zero => exact absurd HA.out (by simp [spec_l1Cur_team.l0])
  | succ k1 =>
   have H := HA.out; clear HA
   simp only [spec_l1Cur_team.l0] at H
   by_cases c5 : x6_1 < (l1.length : Int)
   ·rw [if_pos c5] at H
    have c5b0 : decide (x6_1 < (l1.length : Int)) = true := decide_eq_true c5
    clear c5; replace H := Option.bind_eq_some_iff.mp H; obtain ⟨⟨t396, t397, t398⟩, A60, H⟩ := H
    replace H : (if t396 = true then (if 0 ≤ x6_1 then (if x5_1.length < 17592186044416 then (spec_l1Cur_team.l0 k1 l1 (x5_1 ++ [(rd_T41 l1 x6_1).f0]) (wrap64 (x6_1 + 1)) s0_0 t397 t398) else (none)) else (none)) else (spec_l1Cur_team.l0 k1 l1 x5_1 (wrap64 (x6_1 + 1)) s0_0 t397 t398)) = some (r1, r2, r3) := H
    have A6 := Aside0.mk A60; clear A60
    by_cases c7 : t396 = true
    ·subst c7
     have H1 : (if 0 ≤ x6_1 then (if x5_1.length < 17592186044416 then (spec_l1Cur_team.l0 k1 l1 (x5_1 ++ [(rd_T41 l1 x6_1).f0]) (wrap64 (x6_1 + 1)) s0_0 t397 t398) else (none)) else (none)) = some (r1, r2, r3) := by rw [if_pos rfl] at H; exact H
     clear H; have H := H1; clear H1
     by_cases c8 : 0 ≤ x6_1
     ·rw [if_pos c8] at H
      have c8b0 : decide (0 ≤ x6_1) = true := decide_eq_true c8
      clear c8
      by_cases c9 : x5_1.length < 17592186044416
      ·rw [if_pos c9] at H
       have LMc9 := Aside0.mk c9; clear c9
       obtain ⟨y400, hy400⟩ : ∃ y_ : List Int, y_ = (x5_1 ++ [(rd_T41 l1 x6_1).f0]) := ⟨_, rfl⟩
       replace H : (spec_l1Cur_team.l0 k1 l1 y400 (wrap64 (x6_1 + 1)) s0_0 t397 t398) = some (r1, r2, r3) := by first | (rw [hy400]; with_reducible exact H) | (have H2_ := (Option.bind_some _ _).symm.trans H; rw [hy400]; with_reducible exact H2_) | (have H2_ := (Option.bind_some _ _).symm.trans H; with_reducible exact H2_) | with_reducible exact H | (rw [hy400]; exact H) | exact H
       have Ny400 := Aside0.mk hy400; clear hy400
       have H' := Aside0.mk H
       clear H
       go_wp2_with (first | ((with_reducible refine gate_callee (f := 76) rfl ?_); refine goesL_ (some 15) rfl rfl Tryz.func76 (by kernel_rfl) rfl #[.pointer (some ⟨g, 0, none⟩), .int .i64 2] rfl gl_ ?_; (with_reducible refine (spec_l1Cur_one.calls g s0_0 x1001_1 x1002_1 2 true t397 t398 w0 _ ?side1 ?side2 A6.out).mono ?_); (case side1 => exact z3_); (case side2 => exact z9_); rintro e w10 ⟨rfl, hi, hb, hk⟩; refine ⟨_, rfl, ?_⟩; have n0_ := Aside0.mk (Kd.R_mono (Kd.R_keep (IsS68.apart (show IsS68 w0 _ g s0_0 x1001_1 x1002_1 from z3_) (kr_ HO_5) (by decide)) hk (fun _ h => h.2)) (fun _ h => h.1)); have n1_ := Aside0.mk (KeepBut.trans z5_ hk (.inl rfl)); have n2_ := Aside0.mk (hb); have n3_ := Aside0.mk (hi); clear HO_5; clear HK; clear HB; clear HI0; have HO_5 := n0_; have HK := n1_; have HB := n2_; have HI0 := n3_; clear n0_ n1_ n2_ n3_; (try clear hb); (try clear hk); (try clear hi); have p399 : 0 ≤ (x6_1 : Int) := od_; have q399 : x6_1 < (l1.length : Int) := od_; obtain ⟨ad399, e399, hx399_0, hx399_1, hx399_2, hx399_3⟩ := at_T41 (Kd.C_foot_now HR1.out HK.out) x6_1 p399 q399; cases e399; replace p399 := eq_true p399; replace q399 := eq_true q399) | ((with_reducible refine gate_builtin (b := .append) (xs := #[.tmp 16, .tmp 22]) rfl ?_); at_builtin; refine Kd.R_append (Kd.int .i64) w.heap.size rfl (.tmp 16) (.tmp 22) 27 3 (.int .i64 0) 8 rfl Tryz.underlying27 info3 rfl (by decide) (by omega) u5 x5_1 ((rd_T41 l1 x6_1).f0) [.int .i64 ((rd_T41 l1 x6_1).f0)] (fun _ => True) (fun _ => False) rfl rfl ?aP (fun _ hk => hk.elim) ?aF ?aO (Below.refl _ _) ?aS ?aL ?_; (case aP => exact rfl); (case aF => exact (fun _ _ => trivial)); (case aO => exact (kr_ HO_5)); (case aS => exact (keep_size (w := w) (g := g) (row := none) z5_)); (case aL => have := LMc9.out; omega); intro v401 w11 ho hb hg hat; rw [← Ny400.out] at ho; have n0_ := Aside0.mk (IsS68.grown z3_ hg (IsS68.own_ne HI0.out HO_5.out (by decide))); have n1_ := Aside0.mk (below_weaken z9_ HL.out hb); have n2_ := Aside0.mk (KeepBut.trans z5_ (KeepBut.of_grown hg g) (Kd.R_base2 HO_5.out)); have n3_ := Aside0.mk (ho); clear HI0; clear HB; clear HK; clear HO_5; have HI0 := n0_; have HB := n1_; have HK := n2_; have HO402 := n3_; clear n0_ n1_ n2_ n3_; clear ho hb hg hat))
       go_roundg k1
       case measure => have := HK1.out; omega
       case rel => exact ⟨(y400), (wrap64 (x6_1 + 1)), (t397), (t398), z2_, H', ⟨by have := HK1.out; omega⟩, ⟨by (with_reducible repeat (first | apply Kd.R_alloc | apply Kd.R_drewN | apply Kd.R_drew)); exact HO402.out⟩, ⟨z3_⟩, ⟨z5_⟩, ⟨z9_⟩⟩
      ·rw [if_neg c9] at H
       exact absurd H (by simp)
     ·rw [if_neg c8] at H
      exact absurd H (by simp)
    ·replace c7 := Bool.eq_false_iff.mpr c7
     subst c7
     have H1 : (spec_l1Cur_team.l0 k1 l1 x5_1 (wrap64 (x6_1 + 1)) s0_0 t397 t398) = some (r1, r2, r3) := by rw [if_neg (show ¬ (false = true) by decide)] at H; exact H
     clear H; have H := H1; clear H1
     have H' := Aside0.mk H
     clear H
     go_wp2_with (first | ((with_reducible refine gate_callee (f := 76) rfl ?_); refine goesL_ (some 15) rfl rfl Tryz.func76 (by kernel_rfl) rfl #[.pointer (some ⟨g, 0, none⟩), .int .i64 2] rfl gl_ ?_; (with_reducible refine (spec_l1Cur_one.calls g s0_0 x1001_1 x1002_1 2 false t397 t398 w0 _ ?side1 ?side2 A6.out).mono ?_); (case side1 => exact z3_); (case side2 => exact z9_); rintro e w12 ⟨rfl, hi, hb, hk⟩; refine ⟨_, rfl, ?_⟩; have n0_ := Aside0.mk (Kd.R_mono (Kd.R_keep (IsS68.apart (show IsS68 w0 _ g s0_0 x1001_1 x1002_1 from z3_) (kr_ HO_5) (by decide)) hk (fun _ h => h.2)) (fun _ h => h.1)); have n1_ := Aside0.mk (KeepBut.trans z5_ hk (.inl rfl)); have n2_ := Aside0.mk (hb); have n3_ := Aside0.mk (hi); clear HO_5; clear HK; clear HB; clear HI0; have HO_5 := n0_; have HK := n1_; have HB := n2_; have HI0 := n3_; clear n0_ n1_ n2_ n3_; (try clear hb); (try clear hk); (try clear hi)))
     go_roundg k1
     case measure => have := HK1.out; omega
     case rel => exact ⟨(x5_1), (wrap64 (x6_1 + 1)), (t397), (t398), z2_, H', ⟨by have := HK1.out; omega⟩, ⟨z36_⟩, ⟨z3_⟩, ⟨z5_⟩, ⟨z9_⟩⟩
   ·rw [if_neg c5] at H
    have c5b0 : decide (x6_1 < (l1.length : Int)) = false := decide_eq_false c5
    clear c5; replace H := Option.bind_eq_some_iff.mp H; obtain ⟨⟨t403, t404, t405⟩, A130, H⟩ := H
    replace H : (if t403 = 0 then ((spec_l1Cur_among.f s0_0 t404 t405 (([0, 1, 98] : List Int))).bind fun bt409 => (if x5_1.length < 17592186044416 then (some ((x5_1 ++ [bt409.1]), bt409.2.1, bt409.2.2)) else (none))) else (if t403 = 1 then (if (x5_1.length : Int) > 1 then (if 1 < (x5_1.length : Int) then (if 0 < (x5_1.length : Int) then (some ((x5_1.set (0 : Int).toNat (rd x5_1 1)), t404, t405)) else (none)) else (none)) else (some (x5_1, t404, t405))) else (some (x5_1, t404, t405)))) = some (r1, r2, r3) := H
    have A13 := Aside0.mk A130; clear A130
    by_cases c14 : t403 = 0
    ·rw [if_pos c14] at H
     have c14b0 : (t403 == 0) = true := beq_iff_eq.mpr c14
     have c14b1 : (t403 != 0) = false := bne_eq_false_iff_eq.mpr c14
     clear c14
     obtain ⟨y406, hy406⟩ : ∃ y_ : List Int, y_ = (([0, 1, 98] : List Int)) := ⟨_, rfl⟩
     replace H : ((spec_l1Cur_among.f s0_0 t404 t405 y406).bind fun bt409 => (if x5_1.length < 17592186044416 then (some ((x5_1 ++ [bt409.1]), bt409.2.1, bt409.2.2)) else (none))) = some (r1, r2, r3) := by first | (rw [hy406]; with_reducible exact H) | (have H2_ := (Option.bind_some _ _).symm.trans H; rw [hy406]; with_reducible exact H2_) | (have H2_ := (Option.bind_some _ _).symm.trans H; with_reducible exact H2_) | with_reducible exact H | (rw [hy406]; exact H) | exact H
     have Ny406 := Aside0.mk hy406; clear hy406; replace H := Option.bind_eq_some_iff.mp H; obtain ⟨⟨t409, t410, t411⟩, A150, H⟩ := H
     replace H : (if x5_1.length < 17592186044416 then (some ((x5_1 ++ [t409]), t410, t411)) else (none)) = some (r1, r2, r3) := H
     have A15 := Aside0.mk A150; clear A150
     by_cases c16 : x5_1.length < 17592186044416
     ·rw [if_pos c16] at H
      have LMc16 := Aside0.mk c16; clear c16
      obtain ⟨y412, hy412⟩ : ∃ y_ : List Int, y_ = (x5_1 ++ [t409]) := ⟨_, rfl⟩
      replace H : (some (y412, t410, t411)) = some (r1, r2, r3) := by first | (rw [hy412]; with_reducible exact H) | (have H2_ := (Option.bind_some _ _).symm.trans H; rw [hy412]; with_reducible exact H2_) | (have H2_ := (Option.bind_some _ _).symm.trans H; with_reducible exact H2_) | with_reducible exact H | (rw [hy412]; exact H) | exact H
      have Ny412 := Aside0.mk hy412; clear hy412
      simp only [Option.some.injEq, Prod.mk.injEq] at H
      obtain ⟨rfl, rfl, rfl⟩ := H
      go_wp2_with (first | ((with_reducible refine gate_callee (f := 73) rfl ?_); refine goesL_ (some 25) rfl rfl Tryz.func73 (by kernel_rfl) rfl #[.pointer (some ⟨g, 0, none⟩), .int .i64 24] rfl gl_ ?_; (with_reducible refine (spec_l1Cur_pick.calls g s0_0 x1001_1 x1002_1 24 t403 t404 t405 w0 _ ?side1 ?side2 A13.out).mono ?_); (case side1 => exact z3_); (case side2 => exact z9_); rintro e w17 ⟨rfl, hi, hb, hk⟩; refine ⟨_, rfl, ?_⟩; have n0_ := Aside0.mk (Kd.R_mono (Kd.R_keep (IsS68.apart (show IsS68 w0 _ g s0_0 x1001_1 x1002_1 from z3_) (kr_ HO_5) (by decide)) hk (fun _ h => h.2)) (fun _ h => h.1)); have n1_ := Aside0.mk (KeepBut.trans z5_ hk (.inl rfl)); have n2_ := Aside0.mk (hb); have n3_ := Aside0.mk (hi); clear HO_5; clear HK; clear HB; clear HI0; have HO_5 := n0_; have HK := n1_; have HB := n2_; have HI0 := n3_; clear n0_ n1_ n2_ n3_; (try clear hb); (try clear hk); (try clear hi)) | ((with_reducible refine gate_dst (N := 30) rfl ?_); refine Kd.R_lit (Kd.int .i64) _ 3 ?hg (N := 30) ?hd (xs := ([0, 1, 98] : List Int)) (inner := [.int .i64 0, .int .i64 1, .int .i64 98]) (ok := fun _ => True) (okp := fun _ => True) ?hr ?hp (fun _ hk => hk) trivial (Below.refl _ _) (Nat.le_refl _) (by simp) ?_; (case hd => rfl); (case hg => rfl); (case hr => first | (go_simp; done) | (go_simp; rfl)); (case hp => exact (Reps.one (show Kd.M (Kd.int .i64) _ _ _ 0 [.int .i64 0] from rfl) (Reps.one (show Kd.M (Kd.int .i64) _ _ _ 1 [.int .i64 1] from rfl) (Reps.one (show Kd.M (Kd.int .i64) _ _ _ 98 [.int .i64 98] from rfl) (Reps.none _ _))))); intro v407 w18 ho19 hb hg_ hnew_; clear hg_ hnew_; (first | rw [← Ny406.out] at ho19 | (simp only [Int.reduceToNat] at ho19; rw [← Ny406.out] at ho19)); have n0_ := Aside0.mk (Kd.R_elder' (kr_ HO_5) (Kd.R_base ho19) hb); have n1_ := Aside0.mk (Kd.R_lower (Kd.R_new' ho19 (Kd.R_lt (kr_ HO_5))) (keep_size (w := w) (g := g) (row := none) z5_)); have n2_ := Aside0.mk (IsS68.below z3_ hb); have n3_ := Aside0.mk (KeepBut.trans z5_ (KeepBut.of_below hb g none) (.inl rfl)); have n4_ := Aside0.mk (below_step z9_ hb); clear HO_5; clear HI0; clear HK; clear HB; have HO_5 := n0_; have HO408 := n1_; have HI0 := n2_; have HK := n3_; have HB := n4_; clear n0_ n1_ n2_ n3_ n4_; clear hb ho19; obtain ⟨Ao20, co20, eo20⟩ := Kd.R_slice HO408.out; subst eo20) | ((with_reducible refine gate_callee (f := 74) rfl ?_); refine goesL_ (some 31) rfl rfl Tryz.func74 (by kernel_rfl) rfl #[.pointer (some ⟨g, 0, none⟩), .slice Ao20 y406.length co20] rfl gl_ ?_; (with_reducible refine (spec_l1Cur_among.calls g s0_0 t404 t405 _ _ y406 t409 t410 t411 w0 _ ?side1 ?side2 ?side3 ?side4 ?side5 A15.out).mono ?_); (case side1 => exact z3_); (case side2 => exact z9_); (case side3 => repeat (first | exact (Kd.R_reads' HO408.out).2.2 | (with_reducible refine Kd.C_alloc ?_ _) | (with_reducible refine Kd.C_drewN ?_ _) | (with_reducible refine Kd.C_drew ?_))); (case side4 => exact (Kd.R_reads' HO408.out).2.1); (case side5 => exact far_slice (IsS68.own_ne HI0.out HO408.out (by decide))); rintro e w21 ⟨rfl, hi, hb, hk⟩; refine ⟨_, rfl, ?_⟩; have n0_ := Aside0.mk (Kd.R_mono (Kd.R_keep (IsS68.apart (show IsS68 w0 _ g s0_0 t404 t405 from z3_) (kr_ HO_5) (by decide)) hk (fun _ h => h.2)) (fun _ h => h.1)); have n1_ := Aside0.mk (Kd.R_mono (Kd.R_keep (IsS68.apart (show IsS68 w0 _ g s0_0 t404 t405 from z3_) (kr_ HO408) (by decide)) hk (fun _ h => h.2)) (fun _ h => h.1)); have n2_ := Aside0.mk (KeepBut.trans z5_ hk (.inl rfl)); have n3_ := Aside0.mk (hb); have n4_ := Aside0.mk (hi); clear HO_5; clear HO408; clear HK; clear HB; clear HI0; have HO_5 := n0_; have HO408 := n1_; have HK := n2_; have HB := n3_; have HI0 := n4_; clear n0_ n1_ n2_ n3_ n4_; (try clear hb); (try clear hk); (try clear hi)) | ((with_reducible refine gate_builtin (b := .append) (xs := #[.tmp 28, .tmp 32]) rfl ?_); at_builtin; refine Kd.R_append (Kd.int .i64) w.heap.size rfl (.tmp 28) (.tmp 32) 27 3 (.int .i64 0) 8 rfl Tryz.underlying27 info3 rfl (by decide) (by omega) u5 x5_1 t409 [.int .i64 t409] (fun k_ => some k_ ≠ (.slice Ao20 y406.length co20 : Value).ownBlock) (fun _ => False) rfl rfl ?aP (fun _ hk => hk.elim) ?aF ?aO (Below.refl _ _) ?aS ?aL ?_; (case aP => exact rfl); (case aF => exact (fun k_ hk => Kd.fresh' (Kd.R_lt (kr_ HO408)) k_ hk)); (case aO => exact (by (with_reducible repeat (first | apply Kd.R_alloc | apply Kd.R_drewN | apply Kd.R_drew)); exact Kd.R_mono HO_5.out (fun _ hk => hk.2))); (case aS => exact (keep_size (w := w) (g := g) (row := none) z5_)); (case aL => have := LMc16.out; omega); intro v413 w22 ho hb hg hat; rw [← Ny412.out] at ho; have n0_ := Aside0.mk (IsS68.grown z3_ hg (IsS68.own_ne HI0.out HO_5.out (by decide))); have n1_ := Aside0.mk (Kd.R_after (ok := (fun _ => True)) (kr_ HO408) hg hat); have n2_ := Aside0.mk (below_weaken z9_ HL.out hb); have n3_ := Aside0.mk (KeepBut.trans z5_ (KeepBut.of_grown hg g) (Kd.R_base2 HO_5.out)); have n4_ := Aside0.mk (ho); clear HI0; clear HO408; clear HB; clear HK; clear HO_5; have HI0 := n0_; have HO408 := n1_; have HB := n2_; have HK := n3_; have HO414 := n4_; clear n0_ n1_ n2_ n3_ n4_; clear ho hb hg hat))
      go_ret
      exact ⟨_, z7_, by (with_reducible repeat (first | apply Kd.R_alloc | apply Kd.R_drewN | apply Kd.R_drew)); exact Kd.R_mono HO414.out (fun _ hk => trivial), z3_, z9_, z5_⟩
     ·rw [if_neg c16] at H
      exact absurd H (by simp)
    ·rw [if_neg c14] at H
     have c14b0 : (t403 == 0) = false := beq_eq_false_iff_ne.mpr c14
     have c14b1 : (t403 != 0) = true := bne_iff_ne.mpr c14
     by_cases c23 : t403 = 1
     ·rw [if_pos c23] at H
      have c23b0 : (t403 == 1) = true := beq_iff_eq.mpr c23
      have c23b1 : (t403 != 1) = false := bne_eq_false_iff_eq.mpr c23
      clear c23
      by_cases c24 : (x5_1.length : Int) > 1
      ·rw [if_pos c24] at H
       have c24b0 : decide (1 < (x5_1.length : Int)) = true := decide_eq_true c24
       have c24b1 : decide (1 < x5_1.length) = true := decide_eq_true (by omega)
       clear c24
       by_cases c25 : 1 < (x5_1.length : Int)
       ·rw [if_pos c25] at H
        have c25b0 : decide (1 < (x5_1.length : Int)) = true := decide_eq_true c25
        have c25b1 : decide (1 < x5_1.length) = true := decide_eq_true (by omega)
        clear c25
        by_cases c26 : 0 < (x5_1.length : Int)
        ·rw [if_pos c26] at H
         have c26b0 : decide (0 < (x5_1.length : Int)) = true := decide_eq_true c26
         have c26b1 : decide (0 < x5_1.length) = true := decide_eq_true (by omega)
         clear c26
         obtain ⟨y416, hy416⟩ : ∃ y_ : List Int, y_ = (x5_1.set (0 : Int).toNat (rd x5_1 1)) := ⟨_, rfl⟩
         replace H : (some (y416, t404, t405)) = some (r1, r2, r3) := by first | (rw [hy416]; with_reducible exact H) | (have H2_ := (Option.bind_some _ _).symm.trans H; rw [hy416]; with_reducible exact H2_) | (have H2_ := (Option.bind_some _ _).symm.trans H; with_reducible exact H2_) | with_reducible exact H | (rw [hy416]; exact H) | exact H
         have Ny416 := Aside0.mk hy416; clear hy416
         simp only [Option.some.injEq, Prod.mk.injEq] at H
         obtain ⟨rfl, rfl, rfl⟩ := H
         go_wp2_with (first | ((with_reducible refine gate_callee (f := 73) rfl ?_); refine goesL_ (some 25) rfl rfl Tryz.func73 (by kernel_rfl) rfl #[.pointer (some ⟨g, 0, none⟩), .int .i64 24] rfl gl_ ?_; (with_reducible refine (spec_l1Cur_pick.calls g s0_0 x1001_1 x1002_1 24 t403 t404 t405 w0 _ ?side1 ?side2 A13.out).mono ?_); (case side1 => exact z3_); (case side2 => exact z9_); rintro e w28 ⟨rfl, hi, hb, hk⟩; refine ⟨_, rfl, ?_⟩; have n0_ := Aside0.mk (Kd.R_mono (Kd.R_keep (IsS68.apart (show IsS68 w0 _ g s0_0 x1001_1 x1002_1 from z3_) (kr_ HO_5) (by decide)) hk (fun _ h => h.2)) (fun _ h => h.1)); have n1_ := Aside0.mk (KeepBut.trans z5_ hk (.inl rfl)); have n2_ := Aside0.mk (hb); have n3_ := Aside0.mk (hi); clear HO_5; clear HK; clear HB; clear HI0; have HO_5 := n0_; have HK := n1_; have HB := n2_; have HI0 := n3_; clear n0_ n1_ n2_ n3_; (try clear hb); (try clear hk); (try clear hi); obtain ⟨Ao29, co29, eo29⟩ := Kd.R_slice HO_5.out; subst eo29; have p415 : 0 ≤ (1 : Int) := (by omega); have q415 : 1 < (x5_1.length : Int) := od_; obtain ⟨ad415, e415, hx415_0⟩ := Kd.at_int (Kd.R_reads' HO_5.out).2.2 1 p415 q415; cases e415; (try simp only [show (1 : Int).toNat = 1 from rfl, Nat.reduceMul, Nat.reduceEqDiff, Go.Addr.add, ↓reduceIte] at hx415_0); have qi415 : (1 < x5_1.length) = True := eq_true (by omega); (try rw [show ((1 : Int)).toNat = 1 from rfl] at hx415_0); replace p415 := eq_true p415; replace q415 := eq_true q415; have p27 : 0 ≤ (0 : Int) := (by omega); have q27 : (0 : Int) < ((x5_1.length : Int) : Int) := od_; have qi27 : (0 < x5_1.length) = True := eq_true (by omega); obtain ⟨go27, co27, eo27, gb27, gl27, cl27, HG27⟩ := Kd.R_form HO_5.out (by omega); (first | cases eo27 | (injection eo27 with ea_ en_ ec_; (first | subst ea_ | (injection ea_ with ea_; subst ea_)); subst ec_; clear en_)); have GB27 := Aside0.mk gb27; have GG27 := Aside0.mk HG27; clear gb27 gl27 HG27; (first | simp only [add_plain] at hx415_0 | skip); obtain ⟨hx27_0, hf27_0⟩ := Kd.R_celln 0 HO_5.out (0 : Int) p27 q27; (try rw [show ((0 : Int)).toNat = 0 from rfl] at hx27_0); (try simp only [Nat.reduceMul, Nat.zero_mul, Nat.zero_add, Nat.reduceAdd] at hx27_0); (try rw [show ((0 : Int)).toNat = 0 from rfl] at hf27_0); (try simp only [Nat.reduceMul, Nat.zero_mul, Nat.zero_add, Nat.reduceAdd] at hf27_0); replace p27 := eq_true p27; replace q27 := eq_true q27; obtain ⟨hy30_, hz30_⟩ := Kd.R_celln 0 HO_5.out (0 : Int) (by omega) (od_); (try simp only [Int.reduceToNat, Int.toNat_zero, Int.toNat_ofNat, Nat.reduceMul, Nat.zero_mul, Nat.zero_add] at hy30_ hz30_); (try rw [show ((0 : Int)).toNat = 0 from rfl] at hy30_); (try rw [show ((0 : Int)).toNat = 0 from rfl] at hz30_); have HP30 := Kd.R_putg HO_5.out (0 : Int) (rd x5_1 1)) | ((with_reducible refine gate_store (t := 3) (p := 43) rfl ?_); refine store_event (t := 3) (p := 43) (v := ?vo_w31) (w1 := (w28.setCell ⟨go27, (0 : Int).toNat, none⟩ (.int .i64 (rd x5_1 1)))) ?hg ?ho ?hn ?hr ?_; (case ho => rfl); (case hg => rfl); (case hn => rfl); (case hr => first | (go_simp; done) | (go_simp; rfl)); intro w31 hw; have hg : w28.grownBy w31 (some go27) := (by rw [hw]; exact HP30.2); have hp_ : Kd.R (Kd.int .i64) 3 w31 w.heap.size (fun _ => True) (.slice (some ⟨go27, 0, none⟩) x5_1.length co29) y416 := (by rw [hw, Ny416.out]; exact HP30.1); clear HP30; have n0_ := Aside0.mk (hp_); have n1_ := Aside0.mk (IsS68.grown z3_ hg (IsS68.own_ne HI0.out HO_5.out (by decide))); have n2_ := Aside0.mk ((by rw [hw]; exact below_set (HB.out) (Nat.le_trans HL.out GB27.out) : Below w0.heap.size w0 w31)); have n3_ := Aside0.mk (KeepBut.trans z5_ (KeepBut.of_grown hg g) (Kd.R_base2 HO_5.out)); clear HO_5; clear HI0; clear HB; clear HK; have HO_5 := n0_; have HI0 := n1_; have HB := n2_; have HK := n3_; clear n0_ n1_ n2_ n3_; clear hg hw hp_))
         go_ret
         exact ⟨_, z7_, z36_, z3_, z9_, z5_⟩
        ·rw [if_neg c26] at H
         exact absurd H (by simp)
       ·rw [if_neg c25] at H
        exact absurd H (by simp)
      ·rw [if_neg c24] at H
       have c24b0 : decide (1 < (x5_1.length : Int)) = false := decide_eq_false c24
       have c24b1 : decide (1 < x5_1.length) = false := decide_eq_false (by omega)
       clear c24
       simp only [Option.some.injEq, Prod.mk.injEq] at H
       obtain ⟨rfl, rfl, rfl⟩ := H
       go_wp2_with (first | ((with_reducible refine gate_callee (f := 73) rfl ?_); refine goesL_ (some 25) rfl rfl Tryz.func73 (by kernel_rfl) rfl #[.pointer (some ⟨g, 0, none⟩), .int .i64 24] rfl gl_ ?_; (with_reducible refine (spec_l1Cur_pick.calls g s0_0 x1001_1 x1002_1 24 t403 t404 t405 w0 _ ?side1 ?side2 A13.out).mono ?_); (case side1 => exact z3_); (case side2 => exact z9_); rintro e w32 ⟨rfl, hi, hb, hk⟩; refine ⟨_, rfl, ?_⟩; have n0_ := Aside0.mk (Kd.R_mono (Kd.R_keep (IsS68.apart (show IsS68 w0 _ g s0_0 x1001_1 x1002_1 from z3_) (kr_ HO_5) (by decide)) hk (fun _ h => h.2)) (fun _ h => h.1)); have n1_ := Aside0.mk (KeepBut.trans z5_ hk (.inl rfl)); have n2_ := Aside0.mk (hb); have n3_ := Aside0.mk (hi); clear HO_5; clear HK; clear HB; clear HI0; have HO_5 := n0_; have HK := n1_; have HB := n2_; have HI0 := n3_; clear n0_ n1_ n2_ n3_; (try clear hb); (try clear hk); (try clear hi); obtain ⟨Ao33, co33, eo33⟩ := Kd.R_slice HO_5.out; subst eo33))
       go_ret
       exact ⟨_, z7_, z36_, z3_, z9_, z5_⟩
     ·rw [if_neg c23] at H
      have c23b0 : (t403 == 1) = false := beq_eq_false_iff_ne.mpr c23
      have c23b1 : (t403 != 1) = true := bne_iff_ne.mpr c23
      simp only [Option.some.injEq, Prod.mk.injEq] at H
      obtain ⟨rfl, rfl, rfl⟩ := H
      go_wp2_with (first | ((with_reducible refine gate_callee (f := 73) rfl ?_); refine goesL_ (some 25) rfl rfl Tryz.func73 (by kernel_rfl) rfl #[.pointer (some ⟨g, 0, none⟩), .int .i64 24] rfl gl_ ?_; (with_reducible refine (spec_l1Cur_pick.calls g s0_0 x1001_1 x1002_1 24 t403 t404 t405 w0 _ ?side1 ?side2 A13.out).mono ?_); (case side1 => exact z3_); (case side2 => exact z9_); rintro e w34 ⟨rfl, hi, hb, hk⟩; refine ⟨_, rfl, ?_⟩; have n0_ := Aside0.mk (Kd.R_mono (Kd.R_keep (IsS68.apart (show IsS68 w0 _ g s0_0 x1001_1 x1002_1 from z3_) (kr_ HO_5) (by decide)) hk (fun _ h => h.2)) (fun _ h => h.1)); have n1_ := Aside0.mk (KeepBut.trans z5_ hk (.inl rfl)); have n2_ := Aside0.mk (hb); have n3_ := Aside0.mk (hi); clear HO_5; clear HK; clear HB; clear HI0; have HO_5 := n0_; have HK := n1_; have HB := n2_; have HI0 := n3_; clear n0_ n1_ n2_ n3_; (try clear hb); (try clear hk); (try clear hi)))
      go_ret
      exact ⟨_, z7_, z36_, z3_, z9_, z5_⟩

/-! ### spec_DrawIsTeam_in: function 47 -/
def spec_DrawIsTeam_in.f (k : Nat) (s0_0 : List Int) (s0_1 : Int) (s0_2 : Int) : Option ((List (S41)) × List Int × Int × Int) := (spec_l1Cur_people.f k s0_0 s0_1 s0_2).bind fun bt417 => ((spec_l1Cur_team.f k s0_0 bt417.2.1 bt417.2.2 bt417.1).bind fun bt422 => (some (bt417.1, bt422.1, bt422.2.1, bt422.2.2)))
set_option maxHeartbeats 8000000 in
set_option maxRecDepth 100000 in
theorem spec_DrawIsTeam_in.calls (k : Nat) (A0 : Option Addr) (c0 : Nat) (l0 : List Int) (r1 : List (S41)) (r2 : List Int) (r3 : Int) (r4 : Int) (w : World) (hr0 : Kd.C (Kd.int .u8) w A0 l0.length l0) (hc0 : l0.length ≤ c0) (h : spec_DrawIsTeam_in.f k l0 0 0 = some (r1, r2, r3, r4)) :
  Calls Tryz.prog 47 #[.slice A0 l0.length c0] w fun e w' => ∃ v0_ v1_ : Value, e = .returned (.tuple #[v0_, v1_]) ∧ Kd.R k41 41 w' (w.alloc (.cells #[.slice A0 l0.length c0, .int .i64 0, .int .u64 0] 68)).heap.size (fun _ => True) v0_ r1 ∧ Kd.R (Kd.int .i64) 3 w' (w.alloc (.cells #[.slice A0 l0.length c0, .int .i64 0, .int .u64 0] 68)).heap.size (fun _ => True) v1_ r2 ∧ IsS68 w w' w.heap.size l0 r3 r4 ∧ Below w.heap.size w w' ∧ KeepBut (w.alloc (.cells #[.slice A0 l0.length c0, .int .i64 0, .int .u64 0] 68)) w' w.heap.size none := by
 have hI : IsS68 w (w.alloc (.cells #[.slice A0 l0.length c0, .int .i64 0, .int .u64 0] 68)) w.heap.size l0 0 0 := ⟨A0, c0, heap_alloc_new w _, Nat.le_refl _, hr0⟩
 have hB : Below w.heap.size w (w.alloc (.cells #[.slice A0 l0.length c0, .int .i64 0, .int .u64 0] 68)) := below_alloc (Below.refl _ _) _
 clear hr0; have HI0 := Aside0.mk hI
 have HK := Aside0.mk (KeepBut.refl (w.alloc (.cells #[.slice A0 l0.length c0, .int .i64 0, .int .u64 0] 68)) w.heap.size none)
 have HL := Aside0.mk hB.size; clear hI; have HW0 := Aside0.mk hB.size; have HB := Aside0.mk hB; clear hB
 have H : ((spec_l1Cur_people.f k l0 0 0).bind fun bt417 => ((spec_l1Cur_team.f k l0 bt417.2.1 bt417.2.2 bt417.1).bind fun bt422 => (some (bt417.1, bt422.1, bt422.2.1, bt422.2.2)))) = some (r1, r2, r3, r4) := h
 clear h; replace H := Option.bind_eq_some_iff.mp H; obtain ⟨⟨t417, t420, t421⟩, A20, H⟩ := H
 replace H : ((spec_l1Cur_team.f k l0 t420 t421 t417).bind fun bt422 => (some (t417, bt422.1, bt422.2.1, bt422.2.2))) = some (r1, r2, r3, r4) := H
 have A2 := Aside0.mk A20; clear A20; replace H := Option.bind_eq_some_iff.mp H; obtain ⟨⟨t422, t425, t426⟩, A30, H⟩ := H
 replace H : (some (t417, t422, t425, t426)) = some (r1, r2, r3, r4) := H
 have A3 := Aside0.mk A30; clear A30
 simp only [Option.some.injEq, Prod.mk.injEq] at H
 obtain ⟨rfl, rfl, rfl, rfl⟩ := H
 go_enter Tryz.func47, Tryz.ntmps47
 go_wp2_with (first | ((with_reducible refine gate_callee (f := 52) rfl ?_); refine goesL_ (some 10) rfl rfl Tryz.func52 (by kernel_rfl) rfl #[.pointer (some ⟨w.heap.size, 0, none⟩)] rfl gl_ ?_; (with_reducible refine (spec_l1Cur_people.calls k w.heap.size l0 0 0 t417 t420 t421 w _ ?side1 ?side2 A2.out).mono ?_); (case side1 => exact z3_); (case side2 => exact z9_); rintro e w4 ⟨v418, rfl, ho0, hi, hb, hk⟩; refine ⟨_, rfl, ?_⟩; have n0_ := Aside0.mk (Kd.R_lower ho0 (keep_size (w := (w.alloc (.cells #[.slice A0 l0.length c0, .int .i64 0, .int .u64 0] 68))) (g := w.heap.size) (row := none) z5_)); have n1_ := Aside0.mk (KeepBut.trans z5_ hk (.inl rfl)); have n2_ := Aside0.mk (hb); have n3_ := Aside0.mk (hi); clear HK; clear HB; clear HI0; have HO419 := n0_; have HK := n1_; have HB := n2_; have HI0 := n3_; clear n0_ n1_ n2_ n3_; (try clear hb); (try clear hk); (try clear hi); (try clear ho0); obtain ⟨Ao5, co5, eo5⟩ := Kd.R_slice HO419.out; subst eo5) | ((with_reducible refine gate_callee (f := 53) rfl ?_); refine goesL_ (some 14) rfl rfl Tryz.func53 (by kernel_rfl) rfl #[.pointer (some ⟨w.heap.size, 0, none⟩), .slice Ao5 t417.length co5] rfl gl_ ?_; (with_reducible refine (spec_l1Cur_team.calls k w.heap.size l0 t420 t421 _ _ t417 t422 t425 t426 w _ ?side1 ?side2 ?side3 ?side4 A3.out).mono ?_); (case side1 => exact z3_); (case side2 => exact z9_); (case side3 => exact Kd.C_foot_own (IsS68.apart (show IsS68 w _ w.heap.size l0 t420 t421 from z3_) (kr_ HO419) (by decide)) (fun _ h_ => h_.2)); (case side4 => exact (Kd.R_reads' HO419.out).2.1); rintro e w6 ⟨v423, rfl, ho0, hi, hb, hk⟩; refine ⟨_, rfl, ?_⟩; have n0_ := Aside0.mk (Kd.R_mono (Kd.R_keep (IsS68.apart (show IsS68 w _ w.heap.size l0 t420 t421 from z3_) (kr_ HO419) (by decide)) hk (fun _ h => h.2)) (fun _ h => h.1)); have n1_ := Aside0.mk (Kd.R_lower ho0 (keep_size (w := (w.alloc (.cells #[.slice A0 l0.length c0, .int .i64 0, .int .u64 0] 68))) (g := w.heap.size) (row := none) z5_)); have n2_ := Aside0.mk (KeepBut.trans z5_ hk (.inl rfl)); have n3_ := Aside0.mk (hb); have n4_ := Aside0.mk (hi); clear HO419; clear HK; clear HB; clear HI0; have HO419 := n0_; have HO424 := n1_; have HK := n2_; have HB := n3_; have HI0 := n4_; clear n0_ n1_ n2_ n3_ n4_; (try clear hb); (try clear hk); (try clear hi); (try clear ho0)))
 go_ret2
 exact ⟨_, _, z7_, by (with_reducible repeat (first | apply Kd.R_alloc | apply Kd.R_drewN | apply Kd.R_drew)); exact HO419.out, by (with_reducible repeat (first | apply Kd.R_alloc | apply Kd.R_drewN | apply Kd.R_drew)); exact HO424.out, z3_, z9_, z5_⟩

/-! ### spec_DrawIsTeam: function 47 -/
def spec_DrawIsTeam.f (k : Nat) (l0 : List Int) : Option ((List (S41)) × List Int) := (spec_DrawIsTeam_in.f k l0 0 0).bind fun t => some (t.1, t.2.1)
theorem spec_DrawIsTeam.calls (k : Nat) (A0 : Option Addr) (c0 : Nat) (l0 : List Int) (r1 : List (S41)) (r2 : List Int) (w : World) (hr0 : Kd.C (Kd.int .u8) w A0 l0.length l0) (hc0 : l0.length ≤ c0) (h : spec_DrawIsTeam.f k l0 = some (r1, r2)) :
  Calls Tryz.prog 47 #[.slice A0 l0.length c0] w fun e w' => ∃ v0_ v1_ : Value, e = .returned (.tuple #[v0_, v1_]) ∧ Kd.R k41 41 w' w.heap.size (fun _ => True) v0_ r1 ∧ Kd.R (Kd.int .i64) 3 w' w.heap.size (fun _ => True) v1_ r2 ∧ Below w.heap.size w w' := by
 unfold spec_DrawIsTeam.f at h
 obtain ⟨⟨r1, r2, r3, r4⟩, h1, h2⟩ := Option.bind_eq_some_iff.mp h
 simp only [Option.some.injEq, Prod.mk.injEq] at h2
 obtain ⟨rfl, rfl⟩ := h2
 refine (spec_DrawIsTeam_in.calls k A0 c0 l0 r1 r2 r3 r4 w hr0 hc0 h1).mono ?_
 rintro e w' ⟨v0_, v1_, he_, h1_, h2_, _, hb_, _⟩
 exact ⟨v0_, v1_, he_, Kd.R_lower h1_ (below_size (below_alloc (Below.refl _ w) _)), Kd.R_lower h2_ (below_size (below_alloc (Below.refl _ w) _)), hb_⟩

/-! ### spec_DrawSkillsOf: function 32 -/
def spec_DrawSkillsOf.f (k : Nat) (l0 : List Int) : Option ((List (S41)) × List Int) := (spec_DrawIsTeam.f k l0).bind fun bt427 => (some (bt427.1, bt427.2))
set_option maxHeartbeats 8000000 in
set_option maxRecDepth 100000 in
theorem spec_DrawSkillsOf.calls (k : Nat) (A0 : Option Addr) (c0 : Nat) (l0 : List Int) (r1 : List (S41)) (r2 : List Int) (w : World) (hr0 : Kd.C (Kd.int .u8) w A0 l0.length l0) (hc0 : l0.length ≤ c0) (h : spec_DrawSkillsOf.f k l0 = some (r1, r2)) :
  Calls Tryz.prog 32 #[.slice A0 l0.length c0] w fun e w' => ∃ v0_ v1_ : Value, e = .returned (.tuple #[v0_, v1_]) ∧ Kd.R k41 41 w' w.heap.size (fun _ => True) v0_ r1 ∧ Kd.R (Kd.int .i64) 3 w' w.heap.size (fun _ => True) v1_ r2 ∧ Below w.heap.size w w' := by
 have HR0 := Aside0.mk hr0; have HC0 := Aside0.mk hc0; clear hr0 hc0
 have HB := Aside0.mk (Below.refl w.heap.size w)
 have H : ((spec_DrawIsTeam.f k l0).bind fun bt427 => (some (bt427.1, bt427.2))) = some (r1, r2) := h
 clear h; replace H := Option.bind_eq_some_iff.mp H; obtain ⟨⟨t427, t428⟩, A20, H⟩ := H
 replace H : (some (t427, t428)) = some (r1, r2) := H
 have A2 := Aside0.mk A20; clear A20
 simp only [Option.some.injEq, Prod.mk.injEq] at H
 obtain ⟨rfl, rfl⟩ := H
 go_enter Tryz.func32, Tryz.ntmps32
 go_wp2_with (first | ((with_reducible refine gate_callee (f := 47) rfl ?_); refine goesL_ (some 5) rfl rfl Tryz.func47 (by kernel_rfl) rfl #[.slice A0 l0.length c0] rfl gl_ ?_; (with_reducible refine (spec_DrawIsTeam.calls k _ _ l0 t427 t428 _ ?side1 ?side2 A2.out).mono ?_); (case side1 => exact z12_); (case side2 => exact HC0.out); rintro e w3 ⟨v429, v431, rfl, ho0, ho1, hb⟩; refine ⟨_, rfl, ?_⟩; have n0_ := Aside0.mk (Kd.R_lower ho0 (below_size bx_)); have n1_ := Aside0.mk (Kd.R_lower ho1 (below_size bx_)); have n2_ := Aside0.mk (below_step bx_ hb); clear HB; have HO430 := n0_; have HO432 := n1_; have HB := n2_; clear n0_ n1_ n2_; (try clear hb); (try clear hk); (try clear hi); (try clear ho0); (try clear ho1)))
 go_ret2
 exact ⟨_, _, z7_, by (with_reducible repeat (first | apply Kd.R_alloc | apply Kd.R_drewN | apply Kd.R_drew)); exact HO430.out, by (with_reducible repeat (first | apply Kd.R_alloc | apply Kd.R_drewN | apply Kd.R_drew)); exact HO432.out, z4_⟩

/-! ### spec_l1Rising: function 72 -/
def spec_l1Rising.l0 : Nat → List Int → Int → Int → Int → Option (Bool)
 | 0, _, _, _, _ => none
 | k + 1, x0, x1, x2, x7 => if x7 < (x0.length : Int) then (if 0 ≤ x7 then ((spec_l1In.f (rd x0 x7) x1 x2).bind fun t434 => (if t434 = true then (if x7 > 0 then (if 0 ≤ (wrap64 (x7 - 1)) then (if (wrap64 (x7 - 1)) < (x0.length : Int) then (if (rd x0 (wrap64 (x7 - 1))) ≥ (rd x0 x7) then (some false) else (spec_l1Rising.l0 k x0 x1 x2 (wrap64 (x7 + 1)))) else (none)) else (none)) else (spec_l1Rising.l0 k x0 x1 x2 (wrap64 (x7 + 1)))) else (some false))) else (none)) else (some true)
def spec_l1Rising.f (k : Nat) (l0 : List Int) (a1 : Int) (a2 : Int) : Option (Bool) := spec_l1Rising.l0 k l0 a1 a2 0
set_option maxHeartbeats 8000000 in
set_option maxRecDepth 100000 in
theorem spec_l1Rising.calls (k : Nat) (A0 : Option Addr) (c0 : Nat) (l0 : List Int) (a1 : Int) (a2 : Int) (r : Bool) (w : World) (hr0 : Kd.C (Kd.int .i64) w A0 l0.length l0) (hc0 : l0.length ≤ c0) (h : spec_l1Rising.f k l0 a1 a2 = some r) :
  Calls Tryz.prog 72 #[.slice A0 l0.length c0, .int .i64 a1, .int .i64 a2] w fun e w' => e = .returned (.bool r) ∧ Drawn0 w w' := by
 have HR0 := Aside0.mk hr0; have HC0 := Aside0.mk hc0; clear hr0 hc0
 have H : (spec_l1Rising.l0 k l0 a1 a2 0) = some r := h
 clear h
 have H' := Aside0.mk H
 clear H
 go_enter Tryz.func72, Tryz.ntmps72
 go_wp2
 repeat (go_quiet (fail); try go_wp2)
 go_loopg [7] k (fun kq v7 w' => ∃ (x7_1 : Int), v7 = .int .i64 x7_1 ∧ Aside0 (spec_l1Rising.l0 kq l0 a1 a2 x7_1 = some r) ∧ Aside0 (kq ≤ k) ∧ Drawn0 w w')
 case atStart => exact ⟨(0), z2_, H', ⟨Nat.le_refl _⟩, z6_⟩
 case round =>
  clear H'
  obtain ⟨x7_1, rfl, HA, HK1, ⟨m1, rfl⟩⟩ := hrel
  cases gk with
  | zero => exact absurd HA.out (by simp [spec_l1Rising.l0])
  | succ k1 =>
   have H := HA.out; clear HA
   simp only [spec_l1Rising.l0] at H
   by_cases c4 : x7_1 < (l0.length : Int)
   ·rw [if_pos c4] at H
    have c4b0 : decide (x7_1 < (l0.length : Int)) = true := decide_eq_true c4
    clear c4
    by_cases c5 : 0 ≤ x7_1
    ·rw [if_pos c5] at H
     have c5b0 : decide (0 ≤ x7_1) = true := decide_eq_true c5
     clear c5; replace H := Option.bind_eq_some_iff.mp H; obtain ⟨t434, A60, H⟩ := H
     replace H : (if t434 = true then (if x7_1 > 0 then (if 0 ≤ (wrap64 (x7_1 - 1)) then (if (wrap64 (x7_1 - 1)) < (l0.length : Int) then (if (rd l0 (wrap64 (x7_1 - 1))) ≥ (rd l0 x7_1) then (some false) else (spec_l1Rising.l0 k1 l0 a1 a2 (wrap64 (x7_1 + 1)))) else (none)) else (none)) else (spec_l1Rising.l0 k1 l0 a1 a2 (wrap64 (x7_1 + 1)))) else (some false)) = some r := H
     have A6 := Aside0.mk A60; clear A60
     by_cases c7 : t434 = true
     ·subst c7
      have H1 : (if x7_1 > 0 then (if 0 ≤ (wrap64 (x7_1 - 1)) then (if (wrap64 (x7_1 - 1)) < (l0.length : Int) then (if (rd l0 (wrap64 (x7_1 - 1))) ≥ (rd l0 x7_1) then (some false) else (spec_l1Rising.l0 k1 l0 a1 a2 (wrap64 (x7_1 + 1)))) else (none)) else (none)) else (spec_l1Rising.l0 k1 l0 a1 a2 (wrap64 (x7_1 + 1)))) = some r := by rw [if_pos rfl] at H; exact H
      clear H; have H := H1; clear H1
      by_cases c8 : x7_1 > 0
      ·rw [if_pos c8] at H
       have c8b0 : decide (0 < x7_1) = true := decide_eq_true c8
       clear c8
       obtain ⟨ji9, hji9⟩ : ∃ j_ : Int, (wrap64 (x7_1 - 1)) = j_ := ⟨_, rfl⟩
       replace H : (if 0 ≤ (ji9) then (if (ji9) < (l0.length : Int) then (if (rd l0 (ji9)) ≥ (rd l0 x7_1) then (some false) else (spec_l1Rising.l0 k1 l0 a1 a2 (wrap64 (x7_1 + 1)))) else (none)) else (none)) = some r := by first | (rw [hji9] at H; exact H) | (simp only [hji9] at H ⊢; exact H)
       (try rw [hji9] at A6)
       have hji9w : (IntKind.i64.wrap (x7_1 - 1)) = ji9 := (i64_w _).trans hji9
       by_cases c10 : 0 ≤ (ji9)
       ·rw [if_pos c10] at H
        have c10b0 : decide (0 ≤ (ji9)) = true := decide_eq_true c10
        clear c10
        by_cases c11 : (ji9) < (l0.length : Int)
        ·rw [if_pos c11] at H
         have c11b0 : decide ((ji9) < (l0.length : Int)) = true := decide_eq_true c11
         clear c11
         by_cases c12 : (rd l0 (ji9)) ≥ (rd l0 x7_1)
         ·rw [if_pos c12] at H
          have c12b0 : decide ((rd l0 x7_1) ≤ (rd l0 (ji9))) = true := decide_eq_true c12
          clear c12
          obtain rfl := Option.some.inj H
          have p433 : 0 ≤ (x7_1 : Int) := od_
          have q433 : x7_1 < (l0.length : Int) := od_
          obtain ⟨ad433, e433, hx433_0⟩ := Kd.at_int HR0.out x7_1 p433 q433
          cases e433
          replace p433 := eq_true p433
          replace q433 := eq_true q433
          go_wp2_with (first | (go_at_call 65; (with_reducible refine (spec_l1In.calls (rd l0 x7_1) a1 a2 true _ A6.out).mono ?_); rintro e w' ⟨rfl, ⟨nd, rfl⟩⟩; (try first | exact ⟨rfl, _, World.drewN_drewN _ _ _⟩ | exact ⟨rfl, _, Eq.trans (World.drewN_drewN _ _ _) (congrArg (World.drewN _) (Nat.add_assoc _ _ _))⟩); have p435 : 0 ≤ ((ji9) : Int) := od_; have q435 : (ji9) < (l0.length : Int) := od_; obtain ⟨ad435, e435, hx435_0⟩ := Kd.at_int HR0.out (ji9) p435 q435; obtain rfl : ad433 = ad435 := (by injection e435); replace p435 := eq_true p435; replace q435 := eq_true q435; have p436 : 0 ≤ (x7_1 : Int) := od_; have q436 : x7_1 < (l0.length : Int) := od_; obtain ⟨ad436, e436, hx436_0⟩ := Kd.at_int HR0.out x7_1 p436 q436; obtain rfl : ad433 = ad436 := (by injection e436); replace p436 := eq_true p436; replace q436 := eq_true q436))
          repeat (go_quiet (first | (go_at_call 65; (with_reducible refine (spec_l1In.calls (rd l0 x7_1) a1 a2 true _ A6.out).mono ?_); rintro e w' ⟨rfl, ⟨nd, rfl⟩⟩; (try first | exact ⟨rfl, _, World.drewN_drewN _ _ _⟩ | exact ⟨rfl, _, Eq.trans (World.drewN_drewN _ _ _) (congrArg (World.drewN _) (Nat.add_assoc _ _ _))⟩); have p435 : 0 ≤ ((ji9) : Int) := od_; have q435 : (ji9) < (l0.length : Int) := od_; obtain ⟨ad435, e435, hx435_0⟩ := Kd.at_int HR0.out (ji9) p435 q435; obtain rfl : ad433 = ad435 := (by injection e435); replace p435 := eq_true p435; replace q435 := eq_true q435; have p436 : 0 ≤ (x7_1 : Int) := od_; have q436 : x7_1 < (l0.length : Int) := od_; obtain ⟨ad436, e436, hx436_0⟩ := Kd.at_int HR0.out x7_1 p436 q436; obtain rfl : ad433 = ad436 := (by injection e436); replace p436 := eq_true p436; replace q436 := eq_true q436)); try go_wp2_with (first | (go_at_call 65; (with_reducible refine (spec_l1In.calls (rd l0 x7_1) a1 a2 true _ A6.out).mono ?_); rintro e w' ⟨rfl, ⟨nd, rfl⟩⟩; (try first | exact ⟨rfl, _, World.drewN_drewN _ _ _⟩ | exact ⟨rfl, _, Eq.trans (World.drewN_drewN _ _ _) (congrArg (World.drewN _) (Nat.add_assoc _ _ _))⟩); have p435 : 0 ≤ ((ji9) : Int) := od_; have q435 : (ji9) < (l0.length : Int) := od_; obtain ⟨ad435, e435, hx435_0⟩ := Kd.at_int HR0.out (ji9) p435 q435; obtain rfl : ad433 = ad435 := (by injection e435); replace p435 := eq_true p435; replace q435 := eq_true q435; have p436 : 0 ≤ (x7_1 : Int) := od_; have q436 : x7_1 < (l0.length : Int) := od_; obtain ⟨ad436, e436, hx436_0⟩ := Kd.at_int HR0.out x7_1 p436 q436; obtain rfl : ad433 = ad436 := (by injection e436); replace p436 := eq_true p436; replace q436 := eq_true q436)))
          go_ret
          exact ⟨by first | rfl | (simp; done) | (simp only [← hji9] <;> (first | rfl | simp)) | (simp [*]; done), z6_⟩
         ·rw [if_neg c12] at H
          have c12b0 : decide ((rd l0 x7_1) ≤ (rd l0 (ji9))) = false := decide_eq_false c12
          clear c12
          have H' := Aside0.mk H
          clear H
          have p433 : 0 ≤ (x7_1 : Int) := od_
          have q433 : x7_1 < (l0.length : Int) := od_
          obtain ⟨ad433, e433, hx433_0⟩ := Kd.at_int HR0.out x7_1 p433 q433
          cases e433
          replace p433 := eq_true p433
          replace q433 := eq_true q433
          go_wp2_with (first | (go_at_call 65; (with_reducible refine (spec_l1In.calls (rd l0 x7_1) a1 a2 true _ A6.out).mono ?_); rintro e w' ⟨rfl, ⟨nd, rfl⟩⟩; (try first | exact ⟨rfl, _, World.drewN_drewN _ _ _⟩ | exact ⟨rfl, _, Eq.trans (World.drewN_drewN _ _ _) (congrArg (World.drewN _) (Nat.add_assoc _ _ _))⟩); have p435 : 0 ≤ ((ji9) : Int) := od_; have q435 : (ji9) < (l0.length : Int) := od_; obtain ⟨ad435, e435, hx435_0⟩ := Kd.at_int HR0.out (ji9) p435 q435; obtain rfl : ad433 = ad435 := (by injection e435); replace p435 := eq_true p435; replace q435 := eq_true q435; have p436 : 0 ≤ (x7_1 : Int) := od_; have q436 : x7_1 < (l0.length : Int) := od_; obtain ⟨ad436, e436, hx436_0⟩ := Kd.at_int HR0.out x7_1 p436 q436; obtain rfl : ad433 = ad436 := (by injection e436); replace p436 := eq_true p436; replace q436 := eq_true q436))
          repeat (go_quiet (first | (go_at_call 65; (with_reducible refine (spec_l1In.calls (rd l0 x7_1) a1 a2 true _ A6.out).mono ?_); rintro e w' ⟨rfl, ⟨nd, rfl⟩⟩; (try first | exact ⟨rfl, _, World.drewN_drewN _ _ _⟩ | exact ⟨rfl, _, Eq.trans (World.drewN_drewN _ _ _) (congrArg (World.drewN _) (Nat.add_assoc _ _ _))⟩); have p435 : 0 ≤ ((ji9) : Int) := od_; have q435 : (ji9) < (l0.length : Int) := od_; obtain ⟨ad435, e435, hx435_0⟩ := Kd.at_int HR0.out (ji9) p435 q435; obtain rfl : ad433 = ad435 := (by injection e435); replace p435 := eq_true p435; replace q435 := eq_true q435; have p436 : 0 ≤ (x7_1 : Int) := od_; have q436 : x7_1 < (l0.length : Int) := od_; obtain ⟨ad436, e436, hx436_0⟩ := Kd.at_int HR0.out x7_1 p436 q436; obtain rfl : ad433 = ad436 := (by injection e436); replace p436 := eq_true p436; replace q436 := eq_true q436)); try go_wp2_with (first | (go_at_call 65; (with_reducible refine (spec_l1In.calls (rd l0 x7_1) a1 a2 true _ A6.out).mono ?_); rintro e w' ⟨rfl, ⟨nd, rfl⟩⟩; (try first | exact ⟨rfl, _, World.drewN_drewN _ _ _⟩ | exact ⟨rfl, _, Eq.trans (World.drewN_drewN _ _ _) (congrArg (World.drewN _) (Nat.add_assoc _ _ _))⟩); have p435 : 0 ≤ ((ji9) : Int) := od_; have q435 : (ji9) < (l0.length : Int) := od_; obtain ⟨ad435, e435, hx435_0⟩ := Kd.at_int HR0.out (ji9) p435 q435; obtain rfl : ad433 = ad435 := (by injection e435); replace p435 := eq_true p435; replace q435 := eq_true q435; have p436 : 0 ≤ (x7_1 : Int) := od_; have q436 : x7_1 < (l0.length : Int) := od_; obtain ⟨ad436, e436, hx436_0⟩ := Kd.at_int HR0.out x7_1 p436 q436; obtain rfl : ad433 = ad436 := (by injection e436); replace p436 := eq_true p436; replace q436 := eq_true q436)))
          go_roundg k1
          case measure => have := HK1.out; omega
          case rel => exact ⟨(wrap64 (x7_1 + 1)), z2_, H', ⟨by have := HK1.out; omega⟩, z6_⟩
        ·rw [if_neg c11] at H
         exact absurd H (by simp)
       ·rw [if_neg c10] at H
        exact absurd H (by simp)
      ·rw [if_neg c8] at H
       have c8b0 : decide (0 < x7_1) = false := decide_eq_false c8
       clear c8
       have H' := Aside0.mk H
       clear H
       have p433 : 0 ≤ (x7_1 : Int) := od_
       have q433 : x7_1 < (l0.length : Int) := od_
       obtain ⟨ad433, e433, hx433_0⟩ := Kd.at_int HR0.out x7_1 p433 q433
       cases e433
       replace p433 := eq_true p433
       replace q433 := eq_true q433
       go_wp2_with (first | (go_at_call 65; (with_reducible refine (spec_l1In.calls (rd l0 x7_1) a1 a2 true _ A6.out).mono ?_); rintro e w' ⟨rfl, ⟨nd, rfl⟩⟩; (try first | exact ⟨rfl, _, World.drewN_drewN _ _ _⟩ | exact ⟨rfl, _, Eq.trans (World.drewN_drewN _ _ _) (congrArg (World.drewN _) (Nat.add_assoc _ _ _))⟩)))
       repeat (go_quiet (first | (go_at_call 65; (with_reducible refine (spec_l1In.calls (rd l0 x7_1) a1 a2 true _ A6.out).mono ?_); rintro e w' ⟨rfl, ⟨nd, rfl⟩⟩; (try first | exact ⟨rfl, _, World.drewN_drewN _ _ _⟩ | exact ⟨rfl, _, Eq.trans (World.drewN_drewN _ _ _) (congrArg (World.drewN _) (Nat.add_assoc _ _ _))⟩))); try go_wp2_with (first | (go_at_call 65; (with_reducible refine (spec_l1In.calls (rd l0 x7_1) a1 a2 true _ A6.out).mono ?_); rintro e w' ⟨rfl, ⟨nd, rfl⟩⟩; (try first | exact ⟨rfl, _, World.drewN_drewN _ _ _⟩ | exact ⟨rfl, _, Eq.trans (World.drewN_drewN _ _ _) (congrArg (World.drewN _) (Nat.add_assoc _ _ _))⟩))))
       go_roundg k1
       case measure => have := HK1.out; omega
       case rel => exact ⟨(wrap64 (x7_1 + 1)), z2_, H', ⟨by have := HK1.out; omega⟩, z6_⟩
     ·replace c7 := Bool.eq_false_iff.mpr c7
      subst c7
      have H1 : (some false) = some r := by rw [if_neg (show ¬ (false = true) by decide)] at H; exact H
      clear H; have H := H1; clear H1
      obtain rfl := Option.some.inj H
      have p433 : 0 ≤ (x7_1 : Int) := od_
      have q433 : x7_1 < (l0.length : Int) := od_
      obtain ⟨ad433, e433, hx433_0⟩ := Kd.at_int HR0.out x7_1 p433 q433
      cases e433
      replace p433 := eq_true p433
      replace q433 := eq_true q433
      go_wp2_with (first | (go_at_call 65; (with_reducible refine (spec_l1In.calls (rd l0 x7_1) a1 a2 false _ A6.out).mono ?_); rintro e w' ⟨rfl, ⟨nd, rfl⟩⟩; (try first | exact ⟨rfl, _, World.drewN_drewN _ _ _⟩ | exact ⟨rfl, _, Eq.trans (World.drewN_drewN _ _ _) (congrArg (World.drewN _) (Nat.add_assoc _ _ _))⟩)))
      repeat (go_quiet (first | (go_at_call 65; (with_reducible refine (spec_l1In.calls (rd l0 x7_1) a1 a2 false _ A6.out).mono ?_); rintro e w' ⟨rfl, ⟨nd, rfl⟩⟩; (try first | exact ⟨rfl, _, World.drewN_drewN _ _ _⟩ | exact ⟨rfl, _, Eq.trans (World.drewN_drewN _ _ _) (congrArg (World.drewN _) (Nat.add_assoc _ _ _))⟩))); try go_wp2_with (first | (go_at_call 65; (with_reducible refine (spec_l1In.calls (rd l0 x7_1) a1 a2 false _ A6.out).mono ?_); rintro e w' ⟨rfl, ⟨nd, rfl⟩⟩; (try first | exact ⟨rfl, _, World.drewN_drewN _ _ _⟩ | exact ⟨rfl, _, Eq.trans (World.drewN_drewN _ _ _) (congrArg (World.drewN _) (Nat.add_assoc _ _ _))⟩))))
      go_ret
      exact ⟨z2_, z6_⟩
    ·rw [if_neg c5] at H
     exact absurd H (by simp)
   ·rw [if_neg c4] at H
    have c4b0 : decide (x7_1 < (l0.length : Int)) = false := decide_eq_false c4
    clear c4
    obtain rfl := Option.some.inj H
    go_wp2
    repeat (go_quiet (fail); try go_wp2)
    go_ret
    exact ⟨z2_, z6_⟩

end Go.Proofs.YtafdklajmklmkaaGreatDoor.XFnTeamCounts
