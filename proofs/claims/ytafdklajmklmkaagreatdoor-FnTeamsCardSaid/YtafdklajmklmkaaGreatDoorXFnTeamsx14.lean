/- Contracts of the functions that the law FnTeams comes to: each is told as a plain function of its arguments, and the machine's call does what that function says; no condition. Written by programs (print.py, xprint.py); Lean checks it. -/
import Derived.Test.YtafdklajmklmkaaGreatDoorXFnTeamsx0
import Derived.Test.YtafdklajmklmkaaGreatDoorXFnTeamsx1
import Derived.Test.YtafdklajmklmkaaGreatDoorXFnTeamsx2
import Derived.Test.YtafdklajmklmkaaGreatDoorXFnTeamsx3
import Derived.Test.YtafdklajmklmkaaGreatDoorXFnTeamsx4
import Derived.Test.YtafdklajmklmkaaGreatDoorXFnTeamsx7
import Derived.Test.YtafdklajmklmkaaGreatDoorXFnTeamsx8
import Derived.Test.YtafdklajmklmkaaGreatDoorXFnTeamsx9
import Derived.Test.YtafdklajmklmkaaGreatDoorXFnTeamsx10
import Derived.Test.YtafdklajmklmkaaGreatDoorXFnTeamsx12
import Derived.Test.YtafdklajmklmkaaGreatDoorXFnTeamsx13
namespace Go.Proofs.YtafdklajmklmkaaGreatDoor.XFnTeams
open Go.RowKit Go.Proofs.YtafdklajmklmkaaGreatDoorW.PrintWords Go.Proofs.YtafdklajmklmkaaGreatDoorW.PrintLast Go.Proofs.YtafdklajmklmkaaGreatDoorW.PrintMore
attribute [local go_sem] max2_int min2_int max_two min_two max_three min_three max_four min_four   -- for this text's walks alone
set_option linter.unusedVariables false
set_option linter.unusedSimpArgs false

attribute [local go_sem high] eqA41
/-! ### spec_GoOnTrip: function 14 -/
mutual
def spec_GoOnTrip.j0 : Nat → List (S41) → List Int → Bool → Option ((List (S41)) × Bool)
 | 0, _, _, _ => none
 | k + 1, x0, x1, x18 => if x18 = true then (some ((([] : List (S41))), false)) else ((some (([] : List (S41)) : List (S41))).bind fun y387 => (if y387.length + x0.length < 3518437208883 then (spec_GoOnTrip.l0 k x1 (y387 ++ x0) 0) else (none)))
def spec_GoOnTrip.l0 : Nat → List Int → List (S41) → Int → Option ((List (S41)) × Bool)
 | 0, _, _, _ => none
 | k + 1, x1, x6, x7 => if x7 < (x6.length : Int) then (if 0 ≤ x7 then ((spec_l1Has.f k x1 ((rd_T41 x6 x7).f0)).bind fun t395 => (if t395 = true then (spec_GoOnTrip.l0 k x1 (x6.set (x7 : Int).toNat (⟨(rd_T41 x6 x7).f0, (rd_T41 x6 x7).f1, (rd_T41 x6 x7).f2, wrap64 (((rd_T41 x6 x7).f3) + 1)⟩ : S41)) (wrap64 (x7 + 1))) else (spec_GoOnTrip.l0 k x1 (x6.set (x7 : Int).toNat (⟨(rd_T41 x6 x7).f0, (rd_T41 x6 x7).f1, (rd_T41 x6 x7).f2, (rd_T41 x6 x7).f3⟩ : S41)) (wrap64 (x7 + 1))))) else (none)) else ((spec_l5Good.f k x6).bind fun t398 => (if t398 = true then (some (x6, true)) else (some ((([] : List (S41))), false))))
end
def spec_GoOnTrip.f (k : Nat) (l0 : List (S41)) (l1 : List Int) : Option ((List (S41)) × Bool) := (spec_l5Asked.f k l0 l1).bind fun t382 => (if t382 = true then ((spec_l5Team.f k l0 l1).bind fun t383 => (spec_GoOnTrip.j0 k l0 l1 (!t383))) else (spec_GoOnTrip.j0 k l0 l1 true))
set_option maxHeartbeats 8000000 in
set_option maxRecDepth 100000 in
theorem spec_GoOnTrip.calls (k : Nat) (A0 : Option Addr) (c0 : Nat) (l0 : List (S41)) (A1 : Option Addr) (c1 : Nat) (l1 : List Int) (r1 : List (S41)) (r2 : Bool) (w : World) (hr0 : Kd.C k41 w A0 l0.length l0) (hc0 : l0.length ≤ c0) (hr1 : Kd.C (Kd.int .i64) w A1 l1.length l1) (hc1 : l1.length ≤ c1) (h : spec_GoOnTrip.f k l0 l1 = some (r1, r2)) :
  Calls Tryz.prog 14 #[.slice A0 l0.length c0, .slice A1 l1.length c1] w fun e w' => ∃ v0_ : Value, e = .returned (.tuple #[v0_, .bool r2]) ∧ Kd.R k41 41 w' w.heap.size (fun _ => True) v0_ r1 ∧ Below w.heap.size w w' := by
 have hu41 := Tryz.underlying41; have HR0 := Aside0.mk hr0; have HC0 := Aside0.mk hc0; clear hr0 hc0; have HR1 := Aside0.mk hr1; have HC1 := Aside0.mk hc1; clear hr1 hc1
 have HB := Aside0.mk (Below.refl w.heap.size w)
 have H : ((spec_l5Asked.f k l0 l1).bind fun t382 => (if t382 = true then ((spec_l5Team.f k l0 l1).bind fun t383 => (spec_GoOnTrip.j0 k l0 l1 (!t383))) else (spec_GoOnTrip.j0 k l0 l1 true))) = some (r1, r2) := h
 clear h; have HC3 := Aside0.mk H; clear H
 go_enter Tryz.func14, Tryz.ntmps14
 go_upto_region 1 with (fail)
 go_cut [18] (fun v18 wc => ∃ (kq : Nat) (x18_2 : Bool), v18 = .bool x18_2 ∧ Aside0 (spec_GoOnTrip.j0 kq l0 l1 x18_2 = some (r1, r2)) ∧ Aside0 (kq ≤ k) ∧ Aside0 (Below w.heap.size w wc))
 case first =>
  have H := HC3.out; clear HC3; replace H := Option.bind_eq_some_iff.mp H; obtain ⟨t382, A40, H⟩ := H
  replace H : (if t382 = true then ((spec_l5Team.f k l0 l1).bind fun t383 => (spec_GoOnTrip.j0 k l0 l1 (!t383))) else (spec_GoOnTrip.j0 k l0 l1 true)) = some (r1, r2) := H
  have A4 := Aside0.mk A40; clear A40
  by_cases c5 : t382 = true
  ·subst c5
   have H1 : ((spec_l5Team.f k l0 l1).bind fun t383 => (spec_GoOnTrip.j0 k l0 l1 (!t383))) = some (r1, r2) := by rw [if_pos rfl] at H; exact H
   clear H; have H := H1; clear H1; replace H := Option.bind_eq_some_iff.mp H; obtain ⟨t383, A60, H⟩ := H
   replace H : (spec_GoOnTrip.j0 k l0 l1 (!t383)) = some (r1, r2) := H
   have A6 := Aside0.mk A60; clear A60
   have H' := Aside0.mk H
   clear H
   go_wp2_with (first | ((with_reducible refine gate_callee (f := 50) rfl ?_); refine goesL_ (some 11) rfl rfl Tryz.func50 (by kernel_rfl) rfl #[.slice A0 l0.length c0, .slice A1 l1.length c1] rfl gl_ ?_; (with_reducible refine (spec_l5Asked.calls k _ _ l0 _ _ l1 true _ ?side1 ?side2 ?side3 ?side4 A4.out).mono ?_); (case side1 => exact z14_); (case side2 => exact HC0.out); (case side3 => exact z37_); (case side4 => exact HC1.out); rintro e w7 ⟨rfl, hb⟩; refine ⟨_, rfl, ?_⟩; have n0_ := Aside0.mk (below_step bx_ hb); clear HB; have HB := n0_; clear n0_; (try clear hb); (try clear hk); (try clear hi)) | (go_at_call 41; (with_reducible refine (spec_l5Team.calls k _ _ l0 _ _ l1 t383 _ ?side1 ?side2 ?side3 ?side4 A6.out).mono ?_); (case side1 => exact z14_); (case side2 => exact HC0.out); (case side3 => exact z37_); (case side4 => exact HC1.out); rintro e w8 ⟨rfl, hb⟩; have n0_ := Aside0.mk (below_step bx_ hb); clear HB; have HB := n0_; clear n0_; (try clear hb); (try clear hk); (try clear hi)))
   go_meet
   case rel => exact ⟨_, (!t383), z2_, H', ⟨by first | omega | exact Nat.le_refl _⟩, ⟨z5_⟩⟩
  ·replace c5 := Bool.eq_false_iff.mpr c5
   subst c5
   have H1 : (spec_GoOnTrip.j0 k l0 l1 true) = some (r1, r2) := by rw [if_neg (show ¬ (false = true) by decide)] at H; exact H
   clear H; have H := H1; clear H1
   have H' := Aside0.mk H
   clear H
   go_wp2_with (first | ((with_reducible refine gate_callee (f := 50) rfl ?_); refine goesL_ (some 11) rfl rfl Tryz.func50 (by kernel_rfl) rfl #[.slice A0 l0.length c0, .slice A1 l1.length c1] rfl gl_ ?_; (with_reducible refine (spec_l5Asked.calls k _ _ l0 _ _ l1 false _ ?side1 ?side2 ?side3 ?side4 A4.out).mono ?_); (case side1 => exact z14_); (case side2 => exact HC0.out); (case side3 => exact z37_); (case side4 => exact HC1.out); rintro e w9 ⟨rfl, hb⟩; refine ⟨_, rfl, ?_⟩; have n0_ := Aside0.mk (below_step bx_ hb); clear HB; have HB := n0_; clear n0_; (try clear hb); (try clear hk); (try clear hi)))
   go_meet
   case rel => exact ⟨_, (true), z2_, H', ⟨by first | omega | exact Nat.le_refl _⟩, ⟨z5_⟩⟩
 case rest =>
  clear HC3; (try clear c1); (try clear c5); obtain ⟨kq, x18_2, rfl, HA, HJ2, HB⟩ := hcut
  cases kq with
  | zero => exact absurd HA.out (by simp [spec_GoOnTrip.j0])
  | succ kj2 =>
   have H := HA.out; clear HA
   simp only [spec_GoOnTrip.j0] at H
   by_cases c10 : x18_2 = true
   ·subst c10
    have H1 : (some ((([] : List (S41))), false)) = some (r1, r2) := by rw [if_pos rfl] at H; exact H
    clear H; have H := H1; clear H1
    obtain ⟨y384, hy384⟩ : ∃ y_ : List (S41), y_ = (([] : List (S41))) := ⟨_, rfl⟩
    replace H : (some (y384, false)) = some (r1, r2) := by first | (rw [hy384]; with_reducible exact H) | (have H2_ := (Option.bind_some _ _).symm.trans H; rw [hy384]; with_reducible exact H2_) | (have H2_ := (Option.bind_some _ _).symm.trans H; with_reducible exact H2_) | with_reducible exact H | (rw [hy384]; exact H) | exact H
    have Ny384 := Aside0.mk hy384; clear hy384
    simp only [Option.some.injEq, Prod.mk.injEq] at H
    obtain ⟨rfl, rfl⟩ := H
    go_wp2_with (first | ((with_reducible refine gate_dst (N := 19) rfl ?_); refine Kd.R_lit k41 _ 41 ?hg (N := 19) ?hd (xs := ([] : List (S41))) (inner := []) (ok := fun _ => True) (okp := fun _ => True) ?hr ?hp (fun _ hk => hk) trivial (Below.refl _ _) (Nat.le_refl _) (by simp) ?_; (case hd => rfl); (case hg => rfl); (case hr => first | (go_simp; done) | (go_simp; rfl)); (case hp => exact (Reps.none _ _)); intro v385 w11 ho12 hb hg_ hnew_; clear hg_ hnew_; (first | rw [← Ny384.out] at ho12 | (simp only [Int.reduceToNat] at ho12; rw [← Ny384.out] at ho12)); have n0_ := Aside0.mk (Kd.R_lower ho12 (below_size bx_)); have n1_ := Aside0.mk (below_step bx_ hb); clear HB; have HO386 := n0_; have HB := n1_; clear n0_ n1_; clear hb ho12))
    go_ret2
    exact ⟨_, z6_, by (with_reducible repeat (first | apply Kd.R_alloc | apply Kd.R_drewN | apply Kd.R_drew)); exact HO386.out, z5_⟩
   ·replace c10 := Bool.eq_false_iff.mpr c10
    subst c10
    have H1 : ((some (([] : List (S41)) : List (S41))).bind fun y387 => (if y387.length + l0.length < 3518437208883 then (spec_GoOnTrip.l0 kj2 l1 (y387 ++ l0) 0) else (none))) = some (r1, r2) := by rw [if_neg (show ¬ (false = true) by decide)] at H; exact H
    clear H; have H := H1; clear H1
    obtain ⟨y387, hy387⟩ : ∃ y_ : List (S41), y_ = (([] : List (S41))) := ⟨_, rfl⟩
    replace H : (if y387.length + l0.length < 3518437208883 then (spec_GoOnTrip.l0 kj2 l1 (y387 ++ l0) 0) else (none)) = some (r1, r2) := by first | (rw [hy387]; with_reducible exact H) | (have H2_ := (Option.bind_some _ _).symm.trans H; rw [hy387]; with_reducible exact H2_) | (have H2_ := (Option.bind_some _ _).symm.trans H; with_reducible exact H2_) | with_reducible exact H | (rw [hy387]; exact H) | exact H
    have Ny387 := Aside0.mk hy387; clear hy387
    by_cases c13 : y387.length + l0.length < 3518437208883
    ·rw [if_pos c13] at H
     have LMc13 := Aside0.mk c13; clear c13
     obtain ⟨y390, hy390⟩ : ∃ y_ : List (S41), y_ = (y387 ++ l0) := ⟨_, rfl⟩
     replace H : (spec_GoOnTrip.l0 kj2 l1 y390 0) = some (r1, r2) := by first | (rw [hy390]; with_reducible exact H) | (have H2_ := (Option.bind_some _ _).symm.trans H; rw [hy390]; with_reducible exact H2_) | (have H2_ := (Option.bind_some _ _).symm.trans H; with_reducible exact H2_) | with_reducible exact H | (rw [hy390]; exact H) | exact H
     have Ny390 := Aside0.mk hy390; clear hy390
     have H' := Aside0.mk H
     clear H
     go_wp2_with (first | ((with_reducible refine gate_dst (N := 20) rfl ?_); refine Kd.R_lit k41 _ 41 ?hg (N := 20) ?hd (xs := ([] : List (S41))) (inner := []) (ok := fun _ => True) (okp := fun _ => True) ?hr ?hp (fun _ hk => hk) trivial (Below.refl _ _) (Nat.le_refl _) (by simp) ?_; (case hd => rfl); (case hg => rfl); (case hr => first | (go_simp; done) | (go_simp; rfl)); (case hp => exact (Reps.none _ _)); intro v388 w14 ho15 hb hg_ hnew_; clear hg_ hnew_; (first | rw [← Ny387.out] at ho15 | (simp only [Int.reduceToNat] at ho15; rw [← Ny387.out] at ho15)); have n0_ := Aside0.mk (Kd.R_lower ho15 (below_size bx_)); have n1_ := Aside0.mk (below_step bx_ hb); clear HB; have HO389 := n0_; have HB := n1_; clear n0_ n1_; clear hb ho15) | ((with_reducible refine gate_builtin (b := .append) (xs := #[.tmp 20, .tmp 21]) rfl ?_); at_builtin; refine Kd.R_append_rows k41 (w0 := w) w.heap.size rfl (.tmp 20) (.tmp 21) 24 41 (.agg #[(.int .i64 0), (.string ⟨#[]⟩), (.int .i64 0), (.int .i64 0)]) 40 rfl Tryz.underlying24 info41 rfl (by decide) (by omega) v388 y387 l0 _ _ _ (fun _ => True) (fun _ => False) rfl rfl ?aO ?aR (fun _ _ h => h) (fun _ h => h.elim) ?aF ?aB ?aS ?aL ?_; (case aR => exact z14_); (case aB => exact bx_); (case aF => exact (fun _ _ => trivial)); (case aO => exact (kr_ HO389)); (case aS => exact (below_size bx_)); (case aL => have := LMc13.out; omega); intro v391 w16 ho hb hg hat; rw [← Ny390.out] at ho; have n0_ := Aside0.mk (hb); have n1_ := Aside0.mk (ho); clear HB; clear HO389; have HB := n0_; have HO392 := n1_; clear n0_ n1_; clear ho hb hg hat))
     go_loopg [7] kj2 (fun kq v7 w' => ∃ (x6_2 : List (S41)) (x7_2 : Int), v7 = .int .i64 x7_2 ∧ Aside0 (spec_GoOnTrip.l0 kq l1 x6_2 x7_2 = some (r1, r2)) ∧ Aside0 (kq ≤ kj2) ∧ Aside0 (Kd.R k41 41 w' w.heap.size (fun _ => True) v391 x6_2) ∧ Aside0 (Below w.heap.size w w'))
     case atStart => exact ⟨(y390), (0), z2_, H', ⟨Nat.le_refl _⟩, ⟨by (with_reducible repeat (first | apply Kd.R_alloc | apply Kd.R_drewN | apply Kd.R_drew)); exact HO392.out⟩, ⟨z5_⟩⟩
     case round =>
      clear H'
      (try clear c1); (try clear c5); (try clear c10); (try clear c13); obtain ⟨x6_2, x7_2, rfl, HA, HK2, HO_6, HB⟩ := hrel
      cases gk with
      | zero => exact absurd HA.out (by simp [spec_GoOnTrip.l0])
      | succ k2 =>
       have H := HA.out; clear HA
       simp only [spec_GoOnTrip.l0] at H
       by_cases c17 : x7_2 < (x6_2.length : Int)
       ·rw [if_pos c17] at H
        have c17b0 : decide (x7_2 < (x6_2.length : Int)) = true := decide_eq_true c17
        clear c17
        by_cases c18 : 0 ≤ x7_2
        ·rw [if_pos c18] at H
         have c18b0 : decide (0 ≤ x7_2) = true := decide_eq_true c18
         clear c18; replace H := Option.bind_eq_some_iff.mp H; obtain ⟨t395, A190, H⟩ := H
         replace H : (if t395 = true then (spec_GoOnTrip.l0 k2 l1 (x6_2.set (x7_2 : Int).toNat (⟨(rd_T41 x6_2 x7_2).f0, (rd_T41 x6_2 x7_2).f1, (rd_T41 x6_2 x7_2).f2, wrap64 (((rd_T41 x6_2 x7_2).f3) + 1)⟩ : S41)) (wrap64 (x7_2 + 1))) else (spec_GoOnTrip.l0 k2 l1 (x6_2.set (x7_2 : Int).toNat (⟨(rd_T41 x6_2 x7_2).f0, (rd_T41 x6_2 x7_2).f1, (rd_T41 x6_2 x7_2).f2, (rd_T41 x6_2 x7_2).f3⟩ : S41)) (wrap64 (x7_2 + 1)))) = some (r1, r2) := H
         have A19 := Aside0.mk A190; clear A190
         by_cases c20 : t395 = true
         ·subst c20
          have H1 : (spec_GoOnTrip.l0 k2 l1 (x6_2.set (x7_2 : Int).toNat (⟨(rd_T41 x6_2 x7_2).f0, (rd_T41 x6_2 x7_2).f1, (rd_T41 x6_2 x7_2).f2, wrap64 (((rd_T41 x6_2 x7_2).f3) + 1)⟩ : S41)) (wrap64 (x7_2 + 1))) = some (r1, r2) := by rw [if_pos rfl] at H; exact H
          clear H; have H := H1; clear H1
          obtain ⟨y396, hy396⟩ : ∃ y_ : List (S41), y_ = (x6_2.set (x7_2 : Int).toNat (⟨(rd_T41 x6_2 x7_2).f0, (rd_T41 x6_2 x7_2).f1, (rd_T41 x6_2 x7_2).f2, wrap64 (((rd_T41 x6_2 x7_2).f3) + 1)⟩ : S41)) := ⟨_, rfl⟩
          replace H : (spec_GoOnTrip.l0 k2 l1 y396 (wrap64 (x7_2 + 1))) = some (r1, r2) := by first | (rw [hy396]; with_reducible exact H) | (have H2_ := (Option.bind_some _ _).symm.trans H; rw [hy396]; with_reducible exact H2_) | (have H2_ := (Option.bind_some _ _).symm.trans H; with_reducible exact H2_) | with_reducible exact H | (rw [hy396]; exact H) | exact H
          have Ny396 := Aside0.mk hy396; clear hy396
          have H' := Aside0.mk H
          clear H
          obtain ⟨Ao22, co22, eo22⟩ := Kd.R_slice HO_6.out
          subst eo22
          have p393 : 0 ≤ (x7_2 : Int) := od_
          have q393 : x7_2 < (x6_2.length : Int) := od_
          obtain ⟨ad393, e393, hx393_0, hx393_1, hx393_2, hx393_3⟩ := at_T41 (Kd.R_reads' HO_6.out).2.2 x7_2 p393 q393
          cases e393
          replace p393 := eq_true p393
          replace q393 := eq_true q393
          go_wp2_with (first | ((with_reducible refine gate_dst (N := 8) rfl ?_); refine box_event ?hg (N := 8) ?hd (cs := #[.int .i64 0, .string (⟨#[]⟩ : ByteArray), .int .i64 0, .int .i64 0]) (t := 41) ?hr ?_; (case hd => rfl); (case hg => rfl); (case hr => first | (go_simp; done) | (go_simp; rfl)); intro gb394 hg w23 hbox hb; have n0_ := Aside0.mk (Kd.R_below (Kd.R_elderB (kr_ HO_6) gb394 (Nat.le_of_eq hg.symm)) hb); have n1_ := Aside0.mk (below_step bx_ hb); have n2_ := Aside0.mk (hbox); have n3_ := Aside0.mk ((by rw [hg]; exact (below_size bx_) : w.heap.size ≤ gb394)); have n4_ := Aside0.mk ((by rw [hg]; exact (below_size bx_) : w.heap.size ≤ gb394)); clear HO_6; clear HB; have HO_6 := n0_; have HB := n1_; have BK394 := n2_; have GW394 := n3_; have GE394 := n4_; clear n0_ n1_ n2_ n3_ n4_; clear hb hbox hg; have z24_0 : w23.cell? ⟨gb394, 0, none⟩ = some (.int .i64 0) := (blk_cell BK394.out 0).trans rfl; have z24_1 : w23.cell? ⟨gb394, 1, none⟩ = some (.string (⟨#[]⟩ : ByteArray)) := (blk_cell BK394.out 1).trans rfl; have z24_2 : w23.cell? ⟨gb394, 2, none⟩ = some (.int .i64 0) := (blk_cell BK394.out 2).trans rfl; have z24_3 : w23.cell? ⟨gb394, 3, none⟩ = some (.int .i64 0) := (blk_cell BK394.out 3).trans rfl; have y24_0 := blk_frozen BK394.out 0; have y24_1 := blk_frozen BK394.out 1; have y24_2 := blk_frozen BK394.out 2; have y24_3 := blk_frozen BK394.out 3) | ((with_reducible refine gate_store (t := 41) (p := 8) rfl ?_); refine store_event (t := 41) (p := 8) (v := ?vo_w25) (w1 := ((((w23.setCell ⟨gb394, 0, none⟩ (.int .i64 ((rd_T41 x6_2 x7_2).f0))).setCell ⟨gb394, 1, none⟩ (.string ((rd_T41 x6_2 x7_2).f1))).setCell ⟨gb394, 2, none⟩ (.int .i64 ((rd_T41 x6_2 x7_2).f2))).setCell ⟨gb394, 3, none⟩ (.int .i64 ((rd_T41 x6_2 x7_2).f3)))) ?hg ?ho ?hn ?hr ?_; (case ho => rfl); (case hg => rfl); (case hn => rfl); (case hr => first | (go_simp; done) | (go_simp; rfl)); intro w25 hw; have n0_ : Aside0 (Kd.R k41 41 w25 w.heap.size (fun k_ => k_ ≠ gb394) (.slice (some ad393) x6_2.length co22) x6_2) := ⟨(by rw [hw]; exact z51_)⟩; have n1_ : Aside0 (w25.heap[gb394]? = some (.cells #[.int .i64 ((rd_T41 x6_2 x7_2).f0), .string ((rd_T41 x6_2 x7_2).f1), .int .i64 ((rd_T41 x6_2 x7_2).f2), .int .i64 ((rd_T41 x6_2 x7_2).f3)] 41 (0, 0))) := ⟨(by rw [hw]; exact z52_)⟩; have n2_ : Aside0 (Below w.heap.size w w25) := ⟨(by rw [hw]; exact bx_)⟩; clear hw; clear HO_6; clear BK394; clear HB; have HO_6 := n0_; have BK394 := n1_; have HB := n2_; clear n0_ n1_ n2_; have z26_0 : w25.cell? ⟨gb394, 0, none⟩ = some (.int .i64 ((rd_T41 x6_2 x7_2).f0)) := (blk_cell BK394.out 0).trans rfl; have z26_1 : w25.cell? ⟨gb394, 1, none⟩ = some (.string ((rd_T41 x6_2 x7_2).f1)) := (blk_cell BK394.out 1).trans rfl; have z26_2 : w25.cell? ⟨gb394, 2, none⟩ = some (.int .i64 ((rd_T41 x6_2 x7_2).f2)) := (blk_cell BK394.out 2).trans rfl; have z26_3 : w25.cell? ⟨gb394, 3, none⟩ = some (.int .i64 ((rd_T41 x6_2 x7_2).f3)) := (blk_cell BK394.out 3).trans rfl; have y26_0 := blk_frozen BK394.out 0; have y26_1 := blk_frozen BK394.out 1; have y26_2 := blk_frozen BK394.out 2; have y26_3 := blk_frozen BK394.out 3) | ((with_reducible refine gate_callee (f := 51) rfl ?_); refine goesL_ (some 36) rfl rfl Tryz.func51 (by kernel_rfl) rfl #[.slice A1 l1.length c1, .int .i64 ((rd_T41 x6_2 x7_2).f0)] rfl gl_ ?_; (with_reducible refine (spec_l1Has.calls k2 _ _ l1 ((rd_T41 x6_2 x7_2).f0) true _ ?side1 ?side2 A19.out).mono ?_); (case side1 => exact z37_); (case side2 => exact HC1.out); rintro e w' ⟨rfl, ⟨nd, rfl⟩⟩; refine ⟨_, rfl, ?_⟩; (try (rw [drewN_self w25]; generalize hq_ : World.drewN w25 _ = w25; have n0_ : Aside0 (Kd.R k41 41 w25 w.heap.size (fun k_ => k_ ≠ gb394) (.slice (some ad393) x6_2.length co22) x6_2) := ⟨by rw [← hq_]; exact (kr_ HO_6)⟩; have n1_ : Aside0 (w25.heap[gb394]? = some (.cells #[.int .i64 ((rd_T41 x6_2 x7_2).f0), .string ((rd_T41 x6_2 x7_2).f1), .int .i64 ((rd_T41 x6_2 x7_2).f2), .int .i64 ((rd_T41 x6_2 x7_2).f3)] 41 (0, 0))) := ⟨by rw [← hq_]; exact z38_⟩; have n2_ : Aside0 (Below w.heap.size w w25) := ⟨by rw [← hq_]; exact bx_⟩; clear HO_6 BK394 HB hq_; have HO_6 := n0_; have BK394 := n1_; have HB := n2_; clear n0_ n1_ n2_)); have z27_0 : w25.cell? ⟨gb394, 0, none⟩ = some (.int .i64 ((rd_T41 x6_2 x7_2).f0)) := (blk_cell BK394.out 0).trans rfl; have z27_1 : w25.cell? ⟨gb394, 1, none⟩ = some (.string ((rd_T41 x6_2 x7_2).f1)) := (blk_cell BK394.out 1).trans rfl; have z27_2 : w25.cell? ⟨gb394, 2, none⟩ = some (.int .i64 ((rd_T41 x6_2 x7_2).f2)) := (blk_cell BK394.out 2).trans rfl; have z27_3 : w25.cell? ⟨gb394, 3, none⟩ = some (.int .i64 ((rd_T41 x6_2 x7_2).f3)) := (blk_cell BK394.out 3).trans rfl; have y27_0 := blk_frozen BK394.out 0; have y27_1 := blk_frozen BK394.out 1; have y27_2 := blk_frozen BK394.out 2; have y27_3 := blk_frozen BK394.out 3) | ((with_reducible refine gate_store (t := 3) (p := 40) rfl ?_); refine store_event (t := 3) (p := 40) (v := ?vo_w28) (w1 := (w25.setCell ⟨gb394, 3, none⟩ (.int .i64 (wrap64 (((rd_T41 x6_2 x7_2).f3) + 1))))) ?hg ?ho ?hn ?hr ?_; (case ho => rfl); (case hg => rfl); (case hn => rfl); (case hr => first | (go_simp; done) | (go_simp; rfl)); intro w28 hw; have n0_ : Aside0 (Kd.R k41 41 w28 w.heap.size (fun k_ => k_ ≠ gb394) (.slice (some ad393) x6_2.length co22) x6_2) := ⟨(by rw [hw]; exact (by (with_reducible repeat (first | apply Kd.R_alloc | apply Kd.R_drewN | apply Kd.R_drew)); exact Kd.R_mono (Kd.R_far (p := ⟨gb394, 3, none⟩) (Kd.R_mono HO_6.out (fun k_ hk => (⟨hk, hk⟩ : _ ∧ k_ ≠ gb394))) (fun _ hk => hk.2) (.int .i64 (wrap64 (((rd_T41 x6_2 x7_2).f3) + 1)))) (fun _ hk => hk.1)))⟩; have n1_ : Aside0 (w28.heap[gb394]? = some (.cells #[.int .i64 ((rd_T41 x6_2 x7_2).f0), .string ((rd_T41 x6_2 x7_2).f1), .int .i64 ((rd_T41 x6_2 x7_2).f2), .int .i64 (wrap64 (((rd_T41 x6_2 x7_2).f3) + 1))] 41 (0, 0))) := ⟨(by rw [hw]; exact (by (with_reducible repeat (first | refine blk_drewN ?_ _ | refine blk_drew ?_ | refine blk_alloc ?_ _)); refine blk_put (cs := #[.int .i64 ((rd_T41 x6_2 x7_2).f0), .string ((rd_T41 x6_2 x7_2).f1), .int .i64 ((rd_T41 x6_2 x7_2).f2), .int .i64 ((rd_T41 x6_2 x7_2).f3)]) ?_ 3 _ rfl; (with_reducible repeat (first | refine blk_drewN ?_ _ | refine blk_drew ?_ | refine blk_alloc ?_ _)); exact BK394.out))⟩; have n2_ : Aside0 (Below w.heap.size w w28) := ⟨(by rw [hw]; exact bx_)⟩; clear hw; clear HO_6; clear BK394; clear HB; have HO_6 := n0_; have BK394 := n1_; have HB := n2_; clear n0_ n1_ n2_; have z29_0 : w28.cell? ⟨gb394, 0, none⟩ = some (.int .i64 ((rd_T41 x6_2 x7_2).f0)) := (blk_cell BK394.out 0).trans rfl; have z29_1 : w28.cell? ⟨gb394, 1, none⟩ = some (.string ((rd_T41 x6_2 x7_2).f1)) := (blk_cell BK394.out 1).trans rfl; have z29_2 : w28.cell? ⟨gb394, 2, none⟩ = some (.int .i64 ((rd_T41 x6_2 x7_2).f2)) := (blk_cell BK394.out 2).trans rfl; have z29_3 : w28.cell? ⟨gb394, 3, none⟩ = some (.int .i64 (wrap64 (((rd_T41 x6_2 x7_2).f3) + 1))) := (blk_cell BK394.out 3).trans rfl; have y29_0 := blk_frozen BK394.out 0; have y29_1 := blk_frozen BK394.out 1; have y29_2 := blk_frozen BK394.out 2; have y29_3 := blk_frozen BK394.out 3; have p21 : 0 ≤ (x7_2 : Int) := od_; have q21 : (x7_2 : Int) < ((x6_2.length : Int) : Int) := od_; obtain ⟨go21, co21, eo21, gb21, gl21, cl21, HG21⟩ := Kd.R_form HO_6.out (by omega); (first | cases eo21 | (injection eo21 with ea_ en_ ec_; (first | subst ea_ | (injection ea_ with ea_; subst ea_)); subst ec_; clear en_)); have GB21 := Aside0.mk gb21; have GG21 := Aside0.mk HG21; clear gb21 gl21 HG21; (first | simp only [add_plain] at hx393_0 | skip); (first | simp only [add_plain] at hx393_1 | skip); (first | simp only [add_plain] at hx393_2 | skip); (first | simp only [add_plain] at hx393_3 | skip); obtain ⟨ce21, hcl21, hM21, hcc21, hfr21⟩ := Kd.R_elem HO_6.out z41 (x7_2 : Int) p21 q21; obtain rfl := k41_openM hM21; have hx21_0 : w28.cell? ⟨go21, (x7_2 : Int).toNat * 4, none⟩ = some (.int .i64 ((rd_T41 x6_2 x7_2).f0)) := hcc21 0 _ rfl; have hx21_1 : w28.cell? ⟨go21, (x7_2 : Int).toNat * 4 + 1, none⟩ = some (.string ((rd_T41 x6_2 x7_2).f1)) := hcc21 1 _ rfl; have hx21_2 : w28.cell? ⟨go21, (x7_2 : Int).toNat * 4 + 2, none⟩ = some (.int .i64 ((rd_T41 x6_2 x7_2).f2)) := hcc21 2 _ rfl; have hx21_3 : w28.cell? ⟨go21, (x7_2 : Int).toNat * 4 + 3, none⟩ = some (.int .i64 ((rd_T41 x6_2 x7_2).f3)) := hcc21 3 _ rfl; have hf21_0 : w28.frozen? ⟨go21, (x7_2 : Int).toNat * 4, none⟩ = false := hfr21 0; have hf21_1 : w28.frozen? ⟨go21, (x7_2 : Int).toNat * 4 + 1, none⟩ = false := hfr21 1; have hf21_2 : w28.frozen? ⟨go21, (x7_2 : Int).toNat * 4 + 2, none⟩ = false := hfr21 2; have hf21_3 : w28.frozen? ⟨go21, (x7_2 : Int).toNat * 4 + 3, none⟩ = false := hfr21 3; clear hcl21 hcc21 hfr21 hM21; replace p21 := eq_true p21; replace q21 := eq_true q21; have HX30 := Aside0.mk (show Kd.R k41 41 w28 w.heap.size (fun k_ => k_ ≠ gb394) (.slice (some ⟨go21, 0, none⟩) x6_2.length co22) x6_2 from (kr_ HO_6)); obtain ⟨ce30, hcl30, hM30, hcc30, hfr30⟩ := Kd.R_elem HX30.out z41 (x7_2 : Int) (od_) (by have h_ : (x7_2 : Int) < ((x6_2.length : Int) : Int) := od_; first | exact h_ | (have e_ := (Kd.R_reads' HO_6.out).1; omega) | simpa using h_); obtain rfl := k41_openM hM30; have HP30 := Kd.R_seg HX30.out (x7_2 : Int) (od_) (by have h_ : (x7_2 : Int) < ((x6_2.length : Int) : Int) := od_; first | exact h_ | (have e_ := (Kd.R_reads' HO_6.out).1; omega) | simpa using h_) (seg := [.int .i64 ((rd_T41 x6_2 x7_2).f0), .string ((rd_T41 x6_2 x7_2).f1), .int .i64 ((rd_T41 x6_2 x7_2).f2), .int .i64 (wrap64 (((rd_T41 x6_2 x7_2).f3) + 1))]) (j := 0) hcl30 hcc30 (show 4 ≤ 4 from by decide) (x' := (⟨(rd_T41 x6_2 x7_2).f0, (rd_T41 x6_2 x7_2).f1, (rd_T41 x6_2 x7_2).f2, wrap64 (((rd_T41 x6_2 x7_2).f3) + 1)⟩ : S41)) (k41_mkM _ _ _ (⟨(rd_T41 x6_2 x7_2).f0, (rd_T41 x6_2 x7_2).f1, (rd_T41 x6_2 x7_2).f2, wrap64 (((rd_T41 x6_2 x7_2).f3) + 1)⟩ : S41) ) (fun _ hk => hk); have hx30_0 := hcc30 0 _ rfl; (try simp only [show (k41).sz = 4 from rfl, Nat.mul_one, Nat.add_zero] at hx30_0); have hf30_0 := hfr30 0; (try simp only [show (k41).sz = 4 from rfl, Nat.mul_one, Nat.add_zero] at hf30_0); have hx30_1 := hcc30 1 _ rfl; (try simp only [show (k41).sz = 4 from rfl, Nat.mul_one, Nat.add_zero] at hx30_1); have hf30_1 := hfr30 1; (try simp only [show (k41).sz = 4 from rfl, Nat.mul_one, Nat.add_zero] at hf30_1); have hx30_2 := hcc30 2 _ rfl; (try simp only [show (k41).sz = 4 from rfl, Nat.mul_one, Nat.add_zero] at hx30_2); have hf30_2 := hfr30 2; (try simp only [show (k41).sz = 4 from rfl, Nat.mul_one, Nat.add_zero] at hf30_2); have hx30_3 := hcc30 3 _ rfl; (try simp only [show (k41).sz = 4 from rfl, Nat.mul_one, Nat.add_zero] at hx30_3); have hf30_3 := hfr30 3; (try simp only [show (k41).sz = 4 from rfl, Nat.mul_one, Nat.add_zero] at hf30_3); clear hcl30 hcc30 hfr30 hM30) | ((with_reducible refine gate_store (t := 41) (p := 44) rfl ?_); refine store_event (t := 41) (p := 44) (v := ?vo_w31) (w1 := ((((w28.setCell ⟨go21, (x7_2 : Int).toNat * 4, none⟩ (.int .i64 ((rd_T41 x6_2 x7_2).f0))).setCell ⟨go21, (x7_2 : Int).toNat * 4 + 1, none⟩ (.string ((rd_T41 x6_2 x7_2).f1))).setCell ⟨go21, (x7_2 : Int).toNat * 4 + 2, none⟩ (.int .i64 ((rd_T41 x6_2 x7_2).f2))).setCell ⟨go21, (x7_2 : Int).toNat * 4 + 3, none⟩ (.int .i64 (wrap64 (((rd_T41 x6_2 x7_2).f3) + 1))))) ?hg ?ho ?hn ?hr ?_; (case ho => rfl); (case hg => rfl); (case hn => rfl); (case hr => first | (go_simp; done) | (go_simp; rfl)); intro w31 hw; have hg : w28.grownBy w31 (some go21) := (by rw [hw]; exact HP30.2); have hp_ : Kd.R k41 41 w31 w.heap.size (fun k_ => k_ ≠ gb394) (.slice (some ⟨go21, 0, none⟩) x6_2.length co22) y396 := (by rw [hw, Ny396.out]; exact HP30.1); clear HP30; have n0_ := Aside0.mk (hp_); have n1_ := Aside0.mk (blk_grown (g := gb394) (o := .cells #[.int .i64 ((rd_T41 x6_2 x7_2).f0), .string ((rd_T41 x6_2 x7_2).f1), .int .i64 ((rd_T41 x6_2 x7_2).f2), .int .i64 (wrap64 (((rd_T41 x6_2 x7_2).f3) + 1))] 41 (0, 0)) z38_ hg (Kd.R_away HO_6.out (fun _ hk => hk))); have n2_ := Aside0.mk ((by rw [hw]; exact below_set (below_set (below_set (below_set (HB.out) GB21.out) GB21.out) GB21.out) GB21.out : Below w.heap.size w w31)); clear HO_6; clear BK394; clear HB; have HO_6 := n0_; have BK394 := n1_; have HB := n2_; clear n0_ n1_ n2_; clear hg hw hp_))
          go_roundg k2
          case measure => have := HJ2.out; have := HK2.out; omega
          case rel => exact ⟨(y396), (wrap64 (x7_2 + 1)), z2_, H', ⟨by have := HJ2.out; have := HK2.out; omega⟩, ⟨z27_⟩, ⟨by repeat (first | (with_reducible first | exact HB.out | apply below_alloc | apply pw_below_drewN | apply below_drew1 | refine below_set ?_ GE394.out) | exact HB.out)⟩⟩
         ·replace c20 := Bool.eq_false_iff.mpr c20
          subst c20
          have H1 : (spec_GoOnTrip.l0 k2 l1 (x6_2.set (x7_2 : Int).toNat (⟨(rd_T41 x6_2 x7_2).f0, (rd_T41 x6_2 x7_2).f1, (rd_T41 x6_2 x7_2).f2, (rd_T41 x6_2 x7_2).f3⟩ : S41)) (wrap64 (x7_2 + 1))) = some (r1, r2) := by rw [if_neg (show ¬ (false = true) by decide)] at H; exact H
          clear H; have H := H1; clear H1
          obtain ⟨y397, hy397⟩ : ∃ y_ : List (S41), y_ = (x6_2.set (x7_2 : Int).toNat (⟨(rd_T41 x6_2 x7_2).f0, (rd_T41 x6_2 x7_2).f1, (rd_T41 x6_2 x7_2).f2, (rd_T41 x6_2 x7_2).f3⟩ : S41)) := ⟨_, rfl⟩
          replace H : (spec_GoOnTrip.l0 k2 l1 y397 (wrap64 (x7_2 + 1))) = some (r1, r2) := by first | (rw [hy397]; with_reducible exact H) | (have H2_ := (Option.bind_some _ _).symm.trans H; rw [hy397]; with_reducible exact H2_) | (have H2_ := (Option.bind_some _ _).symm.trans H; with_reducible exact H2_) | with_reducible exact H | (rw [hy397]; exact H) | exact H
          have Ny397 := Aside0.mk hy397; clear hy397
          have H' := Aside0.mk H
          clear H
          obtain ⟨Ao33, co33, eo33⟩ := Kd.R_slice HO_6.out
          subst eo33
          have p393 : 0 ≤ (x7_2 : Int) := od_
          have q393 : x7_2 < (x6_2.length : Int) := od_
          obtain ⟨ad393, e393, hx393_0, hx393_1, hx393_2, hx393_3⟩ := at_T41 (Kd.R_reads' HO_6.out).2.2 x7_2 p393 q393
          cases e393
          replace p393 := eq_true p393
          replace q393 := eq_true q393
          go_wp2_with (first | ((with_reducible refine gate_dst (N := 8) rfl ?_); refine box_event ?hg (N := 8) ?hd (cs := #[.int .i64 0, .string (⟨#[]⟩ : ByteArray), .int .i64 0, .int .i64 0]) (t := 41) ?hr ?_; (case hd => rfl); (case hg => rfl); (case hr => first | (go_simp; done) | (go_simp; rfl)); intro gb394 hg w34 hbox hb; have n0_ := Aside0.mk (Kd.R_below (Kd.R_elderB (kr_ HO_6) gb394 (Nat.le_of_eq hg.symm)) hb); have n1_ := Aside0.mk (below_step bx_ hb); have n2_ := Aside0.mk (hbox); have n3_ := Aside0.mk ((by rw [hg]; exact (below_size bx_) : w.heap.size ≤ gb394)); have n4_ := Aside0.mk ((by rw [hg]; exact (below_size bx_) : w.heap.size ≤ gb394)); clear HO_6; clear HB; have HO_6 := n0_; have HB := n1_; have BK394 := n2_; have GW394 := n3_; have GE394 := n4_; clear n0_ n1_ n2_ n3_ n4_; clear hb hbox hg; have z35_0 : w34.cell? ⟨gb394, 0, none⟩ = some (.int .i64 0) := (blk_cell BK394.out 0).trans rfl; have z35_1 : w34.cell? ⟨gb394, 1, none⟩ = some (.string (⟨#[]⟩ : ByteArray)) := (blk_cell BK394.out 1).trans rfl; have z35_2 : w34.cell? ⟨gb394, 2, none⟩ = some (.int .i64 0) := (blk_cell BK394.out 2).trans rfl; have z35_3 : w34.cell? ⟨gb394, 3, none⟩ = some (.int .i64 0) := (blk_cell BK394.out 3).trans rfl; have y35_0 := blk_frozen BK394.out 0; have y35_1 := blk_frozen BK394.out 1; have y35_2 := blk_frozen BK394.out 2; have y35_3 := blk_frozen BK394.out 3) | ((with_reducible refine gate_store (t := 41) (p := 8) rfl ?_); refine store_event (t := 41) (p := 8) (v := ?vo_w36) (w1 := ((((w34.setCell ⟨gb394, 0, none⟩ (.int .i64 ((rd_T41 x6_2 x7_2).f0))).setCell ⟨gb394, 1, none⟩ (.string ((rd_T41 x6_2 x7_2).f1))).setCell ⟨gb394, 2, none⟩ (.int .i64 ((rd_T41 x6_2 x7_2).f2))).setCell ⟨gb394, 3, none⟩ (.int .i64 ((rd_T41 x6_2 x7_2).f3)))) ?hg ?ho ?hn ?hr ?_; (case ho => rfl); (case hg => rfl); (case hn => rfl); (case hr => first | (go_simp; done) | (go_simp; rfl)); intro w36 hw; have n0_ : Aside0 (Kd.R k41 41 w36 w.heap.size (fun k_ => k_ ≠ gb394) (.slice (some ad393) x6_2.length co33) x6_2) := ⟨(by rw [hw]; exact z51_)⟩; have n1_ : Aside0 (w36.heap[gb394]? = some (.cells #[.int .i64 ((rd_T41 x6_2 x7_2).f0), .string ((rd_T41 x6_2 x7_2).f1), .int .i64 ((rd_T41 x6_2 x7_2).f2), .int .i64 ((rd_T41 x6_2 x7_2).f3)] 41 (0, 0))) := ⟨(by rw [hw]; exact z52_)⟩; have n2_ : Aside0 (Below w.heap.size w w36) := ⟨(by rw [hw]; exact bx_)⟩; clear hw; clear HO_6; clear BK394; clear HB; have HO_6 := n0_; have BK394 := n1_; have HB := n2_; clear n0_ n1_ n2_; have z37_0 : w36.cell? ⟨gb394, 0, none⟩ = some (.int .i64 ((rd_T41 x6_2 x7_2).f0)) := (blk_cell BK394.out 0).trans rfl; have z37_1 : w36.cell? ⟨gb394, 1, none⟩ = some (.string ((rd_T41 x6_2 x7_2).f1)) := (blk_cell BK394.out 1).trans rfl; have z37_2 : w36.cell? ⟨gb394, 2, none⟩ = some (.int .i64 ((rd_T41 x6_2 x7_2).f2)) := (blk_cell BK394.out 2).trans rfl; have z37_3 : w36.cell? ⟨gb394, 3, none⟩ = some (.int .i64 ((rd_T41 x6_2 x7_2).f3)) := (blk_cell BK394.out 3).trans rfl; have y37_0 := blk_frozen BK394.out 0; have y37_1 := blk_frozen BK394.out 1; have y37_2 := blk_frozen BK394.out 2; have y37_3 := blk_frozen BK394.out 3) | ((with_reducible refine gate_callee (f := 51) rfl ?_); refine goesL_ (some 36) rfl rfl Tryz.func51 (by kernel_rfl) rfl #[.slice A1 l1.length c1, .int .i64 ((rd_T41 x6_2 x7_2).f0)] rfl gl_ ?_; (with_reducible refine (spec_l1Has.calls k2 _ _ l1 ((rd_T41 x6_2 x7_2).f0) false _ ?side1 ?side2 A19.out).mono ?_); (case side1 => exact z37_); (case side2 => exact HC1.out); rintro e w' ⟨rfl, ⟨nd, rfl⟩⟩; refine ⟨_, rfl, ?_⟩; (try (rw [drewN_self w36]; generalize hq_ : World.drewN w36 _ = w36; have n0_ : Aside0 (Kd.R k41 41 w36 w.heap.size (fun k_ => k_ ≠ gb394) (.slice (some ad393) x6_2.length co33) x6_2) := ⟨by rw [← hq_]; exact (kr_ HO_6)⟩; have n1_ : Aside0 (w36.heap[gb394]? = some (.cells #[.int .i64 ((rd_T41 x6_2 x7_2).f0), .string ((rd_T41 x6_2 x7_2).f1), .int .i64 ((rd_T41 x6_2 x7_2).f2), .int .i64 ((rd_T41 x6_2 x7_2).f3)] 41 (0, 0))) := ⟨by rw [← hq_]; exact z38_⟩; have n2_ : Aside0 (Below w.heap.size w w36) := ⟨by rw [← hq_]; exact bx_⟩; clear HO_6 BK394 HB hq_; have HO_6 := n0_; have BK394 := n1_; have HB := n2_; clear n0_ n1_ n2_)); have z38_0 : w36.cell? ⟨gb394, 0, none⟩ = some (.int .i64 ((rd_T41 x6_2 x7_2).f0)) := (blk_cell BK394.out 0).trans rfl; have z38_1 : w36.cell? ⟨gb394, 1, none⟩ = some (.string ((rd_T41 x6_2 x7_2).f1)) := (blk_cell BK394.out 1).trans rfl; have z38_2 : w36.cell? ⟨gb394, 2, none⟩ = some (.int .i64 ((rd_T41 x6_2 x7_2).f2)) := (blk_cell BK394.out 2).trans rfl; have z38_3 : w36.cell? ⟨gb394, 3, none⟩ = some (.int .i64 ((rd_T41 x6_2 x7_2).f3)) := (blk_cell BK394.out 3).trans rfl; have y38_0 := blk_frozen BK394.out 0; have y38_1 := blk_frozen BK394.out 1; have y38_2 := blk_frozen BK394.out 2; have y38_3 := blk_frozen BK394.out 3; have p32 : 0 ≤ (x7_2 : Int) := od_; have q32 : (x7_2 : Int) < ((x6_2.length : Int) : Int) := od_; obtain ⟨go32, co32, eo32, gb32, gl32, cl32, HG32⟩ := Kd.R_form HO_6.out (by omega); (first | cases eo32 | (injection eo32 with ea_ en_ ec_; (first | subst ea_ | (injection ea_ with ea_; subst ea_)); subst ec_; clear en_)); have GB32 := Aside0.mk gb32; have GG32 := Aside0.mk HG32; clear gb32 gl32 HG32; (first | simp only [add_plain] at hx393_0 | skip); (first | simp only [add_plain] at hx393_1 | skip); (first | simp only [add_plain] at hx393_2 | skip); (first | simp only [add_plain] at hx393_3 | skip); obtain ⟨ce32, hcl32, hM32, hcc32, hfr32⟩ := Kd.R_elem HO_6.out z41 (x7_2 : Int) p32 q32; obtain rfl := k41_openM hM32; have hx32_0 : w36.cell? ⟨go32, (x7_2 : Int).toNat * 4, none⟩ = some (.int .i64 ((rd_T41 x6_2 x7_2).f0)) := hcc32 0 _ rfl; have hx32_1 : w36.cell? ⟨go32, (x7_2 : Int).toNat * 4 + 1, none⟩ = some (.string ((rd_T41 x6_2 x7_2).f1)) := hcc32 1 _ rfl; have hx32_2 : w36.cell? ⟨go32, (x7_2 : Int).toNat * 4 + 2, none⟩ = some (.int .i64 ((rd_T41 x6_2 x7_2).f2)) := hcc32 2 _ rfl; have hx32_3 : w36.cell? ⟨go32, (x7_2 : Int).toNat * 4 + 3, none⟩ = some (.int .i64 ((rd_T41 x6_2 x7_2).f3)) := hcc32 3 _ rfl; have hf32_0 : w36.frozen? ⟨go32, (x7_2 : Int).toNat * 4, none⟩ = false := hfr32 0; have hf32_1 : w36.frozen? ⟨go32, (x7_2 : Int).toNat * 4 + 1, none⟩ = false := hfr32 1; have hf32_2 : w36.frozen? ⟨go32, (x7_2 : Int).toNat * 4 + 2, none⟩ = false := hfr32 2; have hf32_3 : w36.frozen? ⟨go32, (x7_2 : Int).toNat * 4 + 3, none⟩ = false := hfr32 3; clear hcl32 hcc32 hfr32 hM32; replace p32 := eq_true p32; replace q32 := eq_true q32; have HX39 := Aside0.mk (show Kd.R k41 41 w36 w.heap.size (fun k_ => k_ ≠ gb394) (.slice (some ⟨go32, 0, none⟩) x6_2.length co33) x6_2 from (kr_ HO_6)); obtain ⟨ce39, hcl39, hM39, hcc39, hfr39⟩ := Kd.R_elem HX39.out z41 (x7_2 : Int) (od_) (by have h_ : (x7_2 : Int) < ((x6_2.length : Int) : Int) := od_; first | exact h_ | (have e_ := (Kd.R_reads' HO_6.out).1; omega) | simpa using h_); obtain rfl := k41_openM hM39; have HP39 := Kd.R_seg HX39.out (x7_2 : Int) (od_) (by have h_ : (x7_2 : Int) < ((x6_2.length : Int) : Int) := od_; first | exact h_ | (have e_ := (Kd.R_reads' HO_6.out).1; omega) | simpa using h_) (seg := [.int .i64 ((rd_T41 x6_2 x7_2).f0), .string ((rd_T41 x6_2 x7_2).f1), .int .i64 ((rd_T41 x6_2 x7_2).f2), .int .i64 ((rd_T41 x6_2 x7_2).f3)]) (j := 0) hcl39 hcc39 (show 4 ≤ 4 from by decide) (x' := (⟨(rd_T41 x6_2 x7_2).f0, (rd_T41 x6_2 x7_2).f1, (rd_T41 x6_2 x7_2).f2, (rd_T41 x6_2 x7_2).f3⟩ : S41)) (k41_mkM _ _ _ (⟨(rd_T41 x6_2 x7_2).f0, (rd_T41 x6_2 x7_2).f1, (rd_T41 x6_2 x7_2).f2, (rd_T41 x6_2 x7_2).f3⟩ : S41) ) (fun _ hk => hk); have hx39_0 := hcc39 0 _ rfl; (try simp only [show (k41).sz = 4 from rfl, Nat.mul_one, Nat.add_zero] at hx39_0); have hf39_0 := hfr39 0; (try simp only [show (k41).sz = 4 from rfl, Nat.mul_one, Nat.add_zero] at hf39_0); have hx39_1 := hcc39 1 _ rfl; (try simp only [show (k41).sz = 4 from rfl, Nat.mul_one, Nat.add_zero] at hx39_1); have hf39_1 := hfr39 1; (try simp only [show (k41).sz = 4 from rfl, Nat.mul_one, Nat.add_zero] at hf39_1); have hx39_2 := hcc39 2 _ rfl; (try simp only [show (k41).sz = 4 from rfl, Nat.mul_one, Nat.add_zero] at hx39_2); have hf39_2 := hfr39 2; (try simp only [show (k41).sz = 4 from rfl, Nat.mul_one, Nat.add_zero] at hf39_2); have hx39_3 := hcc39 3 _ rfl; (try simp only [show (k41).sz = 4 from rfl, Nat.mul_one, Nat.add_zero] at hx39_3); have hf39_3 := hfr39 3; (try simp only [show (k41).sz = 4 from rfl, Nat.mul_one, Nat.add_zero] at hf39_3); clear hcl39 hcc39 hfr39 hM39) | ((with_reducible refine gate_store (t := 41) (p := 44) rfl ?_); refine store_event (t := 41) (p := 44) (v := ?vo_w40) (w1 := ((((w36.setCell ⟨go32, (x7_2 : Int).toNat * 4, none⟩ (.int .i64 ((rd_T41 x6_2 x7_2).f0))).setCell ⟨go32, (x7_2 : Int).toNat * 4 + 1, none⟩ (.string ((rd_T41 x6_2 x7_2).f1))).setCell ⟨go32, (x7_2 : Int).toNat * 4 + 2, none⟩ (.int .i64 ((rd_T41 x6_2 x7_2).f2))).setCell ⟨go32, (x7_2 : Int).toNat * 4 + 3, none⟩ (.int .i64 ((rd_T41 x6_2 x7_2).f3)))) ?hg ?ho ?hn ?hr ?_; (case ho => rfl); (case hg => rfl); (case hn => rfl); (case hr => first | (go_simp; done) | (go_simp; rfl)); intro w40 hw; have hg : w36.grownBy w40 (some go32) := (by rw [hw]; exact HP39.2); have hp_ : Kd.R k41 41 w40 w.heap.size (fun k_ => k_ ≠ gb394) (.slice (some ⟨go32, 0, none⟩) x6_2.length co33) y397 := (by rw [hw, Ny397.out]; exact HP39.1); clear HP39; have n0_ := Aside0.mk (hp_); have n1_ := Aside0.mk (blk_grown (g := gb394) (o := .cells #[.int .i64 ((rd_T41 x6_2 x7_2).f0), .string ((rd_T41 x6_2 x7_2).f1), .int .i64 ((rd_T41 x6_2 x7_2).f2), .int .i64 ((rd_T41 x6_2 x7_2).f3)] 41 (0, 0)) z38_ hg (Kd.R_away HO_6.out (fun _ hk => hk))); have n2_ := Aside0.mk ((by rw [hw]; exact below_set (below_set (below_set (below_set (HB.out) GB32.out) GB32.out) GB32.out) GB32.out : Below w.heap.size w w40)); clear HO_6; clear BK394; clear HB; have HO_6 := n0_; have BK394 := n1_; have HB := n2_; clear n0_ n1_ n2_; clear hg hw hp_))
          go_roundg k2
          case measure => have := HJ2.out; have := HK2.out; omega
          case rel => exact ⟨(y397), (wrap64 (x7_2 + 1)), z2_, H', ⟨by have := HJ2.out; have := HK2.out; omega⟩, ⟨z27_⟩, ⟨by repeat (first | (with_reducible first | exact HB.out | apply below_alloc | apply pw_below_drewN | apply below_drew1 | refine below_set ?_ GE394.out) | exact HB.out)⟩⟩
        ·rw [if_neg c18] at H
         exact absurd H (by simp)
       ·rw [if_neg c17] at H
        have c17b0 : decide (x7_2 < (x6_2.length : Int)) = false := decide_eq_false c17
        clear c17; replace H := Option.bind_eq_some_iff.mp H; obtain ⟨t398, A410, H⟩ := H
        replace H : (if t398 = true then (some (x6_2, true)) else (some ((([] : List (S41))), false))) = some (r1, r2) := H
        have A41 := Aside0.mk A410; clear A410
        by_cases c42 : t398 = true
        ·subst c42
         have H1 : (some (x6_2, true)) = some (r1, r2) := by rw [if_pos rfl] at H; exact H
         clear H; have H := H1; clear H1
         simp only [Option.some.injEq, Prod.mk.injEq] at H
         obtain ⟨rfl, rfl⟩ := H
         obtain ⟨Ao43, co43, eo43⟩ := Kd.R_slice HO_6.out
         subst eo43
         go_wp2_with (first | ((with_reducible refine gate_callee (f := 38) rfl ?_); refine goesL_ (some 46) rfl rfl Tryz.func38 (by kernel_rfl) rfl #[.slice Ao43 x6_2.length co43] rfl gl_ ?_; (with_reducible refine (spec_l5Good.calls k2 _ _ x6_2 true _ ?side1 ?side2 A41.out).mono ?_); (case side1 => exact z53_); (case side2 => exact (Kd.R_reads' HO_6.out).2.1); rintro e w44 ⟨rfl, hb⟩; refine ⟨_, rfl, ?_⟩; have n0_ := Aside0.mk (Kd.R_below (kr_ HO_6) hb); have n1_ := Aside0.mk (below_step bx_ hb); clear HO_6; clear HB; have HO_6 := n0_; have HB := n1_; clear n0_ n1_; (try clear hb); (try clear hk); (try clear hi)))
         go_ret2
         exact ⟨_, z6_, z35_, z5_⟩
        ·replace c42 := Bool.eq_false_iff.mpr c42
         subst c42
         have H1 : (some ((([] : List (S41))), false)) = some (r1, r2) := by rw [if_neg (show ¬ (false = true) by decide)] at H; exact H
         clear H; have H := H1; clear H1
         obtain ⟨y399, hy399⟩ : ∃ y_ : List (S41), y_ = (([] : List (S41))) := ⟨_, rfl⟩
         replace H : (some (y399, false)) = some (r1, r2) := by first | (rw [hy399]; with_reducible exact H) | (have H2_ := (Option.bind_some _ _).symm.trans H; rw [hy399]; with_reducible exact H2_) | (have H2_ := (Option.bind_some _ _).symm.trans H; with_reducible exact H2_) | with_reducible exact H | (rw [hy399]; exact H) | exact H
         have Ny399 := Aside0.mk hy399; clear hy399
         simp only [Option.some.injEq, Prod.mk.injEq] at H
         obtain ⟨rfl, rfl⟩ := H
         obtain ⟨Ao45, co45, eo45⟩ := Kd.R_slice HO_6.out
         subst eo45
         go_wp2_with (first | ((with_reducible refine gate_callee (f := 38) rfl ?_); refine goesL_ (some 46) rfl rfl Tryz.func38 (by kernel_rfl) rfl #[.slice Ao45 x6_2.length co45] rfl gl_ ?_; (with_reducible refine (spec_l5Good.calls k2 _ _ x6_2 false _ ?side1 ?side2 A41.out).mono ?_); (case side1 => exact z53_); (case side2 => exact (Kd.R_reads' HO_6.out).2.1); rintro e w46 ⟨rfl, hb⟩; refine ⟨_, rfl, ?_⟩; have n0_ := Aside0.mk (Kd.R_below (kr_ HO_6) hb); have n1_ := Aside0.mk (below_step bx_ hb); clear HO_6; clear HB; have HO_6 := n0_; have HB := n1_; clear n0_ n1_; (try clear hb); (try clear hk); (try clear hi)) | ((with_reducible refine gate_dst (N := 48) rfl ?_); refine Kd.R_lit k41 _ 41 ?hg (N := 48) ?hd (xs := ([] : List (S41))) (inner := []) (ok := fun _ => True) (okp := fun _ => True) ?hr ?hp (fun _ hk => hk) trivial (Below.refl _ _) (Nat.le_refl _) (by simp) ?_; (case hd => rfl); (case hg => rfl); (case hr => first | (go_simp; done) | (go_simp; rfl)); (case hp => exact (Reps.none _ _)); intro v400 w47 ho48 hb hg_ hnew_; clear hg_ hnew_; (first | rw [← Ny399.out] at ho48 | (simp only [Int.reduceToNat] at ho48; rw [← Ny399.out] at ho48)); have n0_ := Aside0.mk (Kd.R_elder' (kr_ HO_6) (Kd.R_base ho48) hb); have n1_ := Aside0.mk (Kd.R_lower (Kd.R_new' ho48 (Kd.R_lt (kr_ HO_6))) (below_size bx_)); have n2_ := Aside0.mk (below_step bx_ hb); clear HO_6; clear HB; have HO_6 := n0_; have HO401 := n1_; have HB := n2_; clear n0_ n1_ n2_; clear hb ho48))
         go_ret2
         exact ⟨_, z6_, by (with_reducible repeat (first | apply Kd.R_alloc | apply Kd.R_drewN | apply Kd.R_drew)); exact Kd.R_mono HO401.out (fun _ hk => trivial), z5_⟩
    ·rw [if_neg c13] at H
     exact absurd H (by simp)

/-! ### laws_rPeople: function 15 -/
def laws_rPeople.l0 : Nat → List (S41) → List (S41) → Int → Option (Bool)
 | 0, _, _, _ => none
 | k + 1, x0, x1, x5 => if x5 < (x0.length : Int) then (if 0 ≤ x5 then (if x5 < (x1.length : Int) then (if (!(((rd_T41 x0 x5).f0) == ((rd_T41 x1 x5).f0)) || (!((((rd_T41 x0 x5).f1).toList) == (((rd_T41 x1 x5).f1).toList)) || (!(((rd_T41 x0 x5).f2) == ((rd_T41 x1 x5).f2)) || (!(((rd_T41 x0 x5).f3) == ((rd_T41 x1 x5).f3)))))) = true then (some false) else (laws_rPeople.l0 k x0 x1 (wrap64 (x5 + 1)))) else (none)) else (none)) else (some true)
def laws_rPeople.f (k : Nat) (l0 : List (S41)) (l1 : List (S41)) : Option (Bool) := if (l0.length : Int) = (l1.length : Int) then (laws_rPeople.l0 k l0 l1 0) else (some false)
set_option maxHeartbeats 8000000 in
set_option maxRecDepth 100000 in
theorem laws_rPeople.calls (k : Nat) (A0 : Option Addr) (c0 : Nat) (l0 : List (S41)) (A1 : Option Addr) (c1 : Nat) (l1 : List (S41)) (r : Bool) (w : World) (hr0 : Kd.C k41 w A0 l0.length l0) (hc0 : l0.length ≤ c0) (hr1 : Kd.C k41 w A1 l1.length l1) (hc1 : l1.length ≤ c1) (h : laws_rPeople.f k l0 l1 = some r) :
  Calls Tryz.prog 15 #[.slice A0 l0.length c0, .slice A1 l1.length c1] w fun e w' => e = .returned (.bool r) ∧ Drawn0 w w' := by
 have hu41 := Tryz.underlying41; have HR0 := Aside0.mk hr0; have HC0 := Aside0.mk hc0; clear hr0 hc0; have HR1 := Aside0.mk hr1; have HC1 := Aside0.mk hc1; clear hr1 hc1
 have H : (if (l0.length : Int) = (l1.length : Int) then (laws_rPeople.l0 k l0 l1 0) else (some false)) = some r := h
 clear h
 by_cases c3 : (l0.length : Int) = (l1.length : Int)
 ·rw [if_pos c3] at H
  have c3b0 : ((l0.length : Int) == (l1.length : Int)) = true := beq_iff_eq.mpr c3
  have c3b1 : ((l0.length : Int) != (l1.length : Int)) = false := bne_eq_false_iff_eq.mpr c3
  have c3b2 : (l0.length == l1.length) = true := by first | simpa using c3 | (simp at c3 ⊢; omega)
  clear c3
  have H' := Aside0.mk H
  clear H
  go_enter Tryz.func15, Tryz.ntmps15
  go_wp2
  repeat (go_quiet (fail); try go_wp2)
  go_loopg [5] k (fun kq v5 w' => ∃ (x5_1 : Int), v5 = .int .i64 x5_1 ∧ Aside0 (laws_rPeople.l0 kq l0 l1 x5_1 = some r) ∧ Aside0 (kq ≤ k) ∧ Drawn0 w w')
  case atStart => exact ⟨(0), z2_, H', ⟨Nat.le_refl _⟩, z7_⟩
  case round =>
   clear H'
   (try clear c1); (try clear c3); (try clear c3b0); (try clear c3b1); (try clear c3b2); obtain ⟨x5_1, rfl, HA, HK1, ⟨m1, rfl⟩⟩ := hrel
   cases gk with
   | zero => exact absurd HA.out (by simp [laws_rPeople.l0])
   | succ k1 =>
    have H := HA.out; clear HA
    simp only [laws_rPeople.l0] at H
    by_cases c4 : x5_1 < (l0.length : Int)
    ·rw [if_pos c4] at H
     have c4b0 : decide (x5_1 < (l0.length : Int)) = true := decide_eq_true c4
     clear c4
     by_cases c5 : 0 ≤ x5_1
     ·rw [if_pos c5] at H
      have c5b0 : decide (0 ≤ x5_1) = true := decide_eq_true c5
      clear c5
      by_cases c6 : x5_1 < (l1.length : Int)
      ·rw [if_pos c6] at H
       have c6b0 : decide (x5_1 < (l1.length : Int)) = true := decide_eq_true c6
       clear c6
       by_cases c7 : (!(((rd_T41 l0 x5_1).f0) == ((rd_T41 l1 x5_1).f0)) || (!((((rd_T41 l0 x5_1).f1).toList) == (((rd_T41 l1 x5_1).f1).toList)) || (!(((rd_T41 l0 x5_1).f2) == ((rd_T41 l1 x5_1).f2)) || (!(((rd_T41 l0 x5_1).f3) == ((rd_T41 l1 x5_1).f3)))))) = true
       ·rw [if_pos c7] at H
        have c7b0 : (!(((rd_T41 l0 x5_1).f0) == ((rd_T41 l1 x5_1).f0)) || (!((((rd_T41 l0 x5_1).f1).toList) == (((rd_T41 l1 x5_1).f1).toList)) || (!(((rd_T41 l0 x5_1).f2) == ((rd_T41 l1 x5_1).f2)) || (!(((rd_T41 l0 x5_1).f3) == ((rd_T41 l1 x5_1).f3)))))) = true := c7
        clear c7
        obtain rfl := Option.some.inj H
        have p402 : 0 ≤ (x5_1 : Int) := od_
        have q402 : x5_1 < (l0.length : Int) := od_
        obtain ⟨ad402, e402, hx402_0, hx402_1, hx402_2, hx402_3⟩ := at_T41 HR0.out x5_1 p402 q402
        cases e402
        replace p402 := eq_true p402
        replace q402 := eq_true q402
        have p403 : 0 ≤ (x5_1 : Int) := od_
        have q403 : x5_1 < (l1.length : Int) := od_
        obtain ⟨ad403, e403, hx403_0, hx403_1, hx403_2, hx403_3⟩ := at_T41 HR1.out x5_1 p403 q403
        cases e403
        replace p403 := eq_true p403
        replace q403 := eq_true q403
        go_wp2
        repeat (go_quiet (fail); try go_wp2)
        go_ret
        exact ⟨z2_, z7_⟩
       ·rw [if_neg c7] at H
        have c7b0 : (!(((rd_T41 l0 x5_1).f0) == ((rd_T41 l1 x5_1).f0)) || (!((((rd_T41 l0 x5_1).f1).toList) == (((rd_T41 l1 x5_1).f1).toList)) || (!(((rd_T41 l0 x5_1).f2) == ((rd_T41 l1 x5_1).f2)) || (!(((rd_T41 l0 x5_1).f3) == ((rd_T41 l1 x5_1).f3)))))) = false := by simpa using c7
        clear c7
        have H' := Aside0.mk H
        clear H
        have p402 : 0 ≤ (x5_1 : Int) := od_
        have q402 : x5_1 < (l0.length : Int) := od_
        obtain ⟨ad402, e402, hx402_0, hx402_1, hx402_2, hx402_3⟩ := at_T41 HR0.out x5_1 p402 q402
        cases e402
        replace p402 := eq_true p402
        replace q402 := eq_true q402
        have p403 : 0 ≤ (x5_1 : Int) := od_
        have q403 : x5_1 < (l1.length : Int) := od_
        obtain ⟨ad403, e403, hx403_0, hx403_1, hx403_2, hx403_3⟩ := at_T41 HR1.out x5_1 p403 q403
        cases e403
        replace p403 := eq_true p403
        replace q403 := eq_true q403
        go_wp2
        repeat (go_quiet (fail); try go_wp2)
        go_roundg k1
        case measure => have := HK1.out; omega
        case rel => exact ⟨(wrap64 (x5_1 + 1)), z2_, H', ⟨by have := HK1.out; omega⟩, z7_⟩
      ·rw [if_neg c6] at H
       exact absurd H (by simp)
     ·rw [if_neg c5] at H
      exact absurd H (by simp)
    ·rw [if_neg c4] at H
     have c4b0 : decide (x5_1 < (l0.length : Int)) = false := decide_eq_false c4
     clear c4
     obtain rfl := Option.some.inj H
     go_wp2
     repeat (go_quiet (fail); try go_wp2)
     go_ret
     exact ⟨z2_, z7_⟩
 ·rw [if_neg c3] at H
  have c3b0 : ((l0.length : Int) == (l1.length : Int)) = false := beq_eq_false_iff_ne.mpr c3
  have c3b1 : ((l0.length : Int) != (l1.length : Int)) = true := bne_iff_ne.mpr c3
  have c3b2 : (l0.length == l1.length) = false := by first | simpa using c3 | (simp at c3 ⊢; omega)
  obtain rfl := Option.some.inj H
  go_enter Tryz.func15, Tryz.ntmps15
  go_wp2
  repeat (go_quiet (fail); try go_wp2)
  go_ret
  exact ⟨z2_, z7_⟩

/-! ### laws_rHas: function 16 -/
def laws_rHas.l0 : Nat → List Int → Int → Int → Option (Bool)
 | 0, _, _, _ => none
 | k + 1, x0, x1, x5 => if x5 < (x0.length : Int) then (if 0 ≤ x5 then (if (rd x0 x5) = x1 then (some true) else (laws_rHas.l0 k x0 x1 (wrap64 (x5 + 1)))) else (none)) else (some false)
def laws_rHas.f (k : Nat) (l0 : List Int) (a1 : Int) : Option (Bool) := laws_rHas.l0 k l0 a1 0
set_option maxHeartbeats 8000000 in
set_option maxRecDepth 100000 in
theorem laws_rHas.calls (k : Nat) (A0 : Option Addr) (c0 : Nat) (l0 : List Int) (a1 : Int) (r : Bool) (w : World) (hr0 : Kd.C (Kd.int .i64) w A0 l0.length l0) (hc0 : l0.length ≤ c0) (h : laws_rHas.f k l0 a1 = some r) :
  Calls Tryz.prog 16 #[.slice A0 l0.length c0, .int .i64 a1] w fun e w' => e = .returned (.bool r) ∧ Drawn0 w w' := by
 have HR0 := Aside0.mk hr0; have HC0 := Aside0.mk hc0; clear hr0 hc0
 have H : (laws_rHas.l0 k l0 a1 0) = some r := h
 clear h
 have H' := Aside0.mk H
 clear H
 go_enter Tryz.func16, Tryz.ntmps16
 go_wp2
 go_loopg [5] k (fun kq v5 w' => ∃ (x5_1 : Int), v5 = .int .i64 x5_1 ∧ Aside0 (laws_rHas.l0 kq l0 a1 x5_1 = some r) ∧ Aside0 (kq ≤ k) ∧ Drawn0 w w')
 case atStart => exact ⟨(0), z2_, H', ⟨Nat.le_refl _⟩, z7_⟩
 case round =>
  clear H'
  (try clear c1); obtain ⟨x5_1, rfl, HA, HK1, ⟨m1, rfl⟩⟩ := hrel
  cases gk with
  | zero => exact absurd HA.out (by simp [laws_rHas.l0])
  | succ k1 =>
   have H := HA.out; clear HA
   simp only [laws_rHas.l0] at H
   by_cases c3 : x5_1 < (l0.length : Int)
   ·rw [if_pos c3] at H
    have c3b0 : decide (x5_1 < (l0.length : Int)) = true := decide_eq_true c3
    clear c3
    by_cases c4 : 0 ≤ x5_1
    ·rw [if_pos c4] at H
     have c4b0 : decide (0 ≤ x5_1) = true := decide_eq_true c4
     clear c4
     by_cases c5 : (rd l0 x5_1) = a1
     ·rw [if_pos c5] at H
      have c5b0 : ((rd l0 x5_1) == a1) = true := beq_iff_eq.mpr c5
      have c5b1 : ((rd l0 x5_1) != a1) = false := bne_eq_false_iff_eq.mpr c5
      clear c5
      obtain rfl := Option.some.inj H
      have p404 : 0 ≤ (x5_1 : Int) := od_
      have q404 : x5_1 < (l0.length : Int) := od_
      obtain ⟨ad404, e404, hx404_0⟩ := Kd.at_int HR0.out x5_1 p404 q404
      cases e404
      replace p404 := eq_true p404
      replace q404 := eq_true q404
      go_wp2
      go_ret
      exact ⟨z2_, z7_⟩
     ·rw [if_neg c5] at H
      have c5b0 : ((rd l0 x5_1) == a1) = false := beq_eq_false_iff_ne.mpr c5
      have c5b1 : ((rd l0 x5_1) != a1) = true := bne_iff_ne.mpr c5
      have H' := Aside0.mk H
      clear H
      have p404 : 0 ≤ (x5_1 : Int) := od_
      have q404 : x5_1 < (l0.length : Int) := od_
      obtain ⟨ad404, e404, hx404_0⟩ := Kd.at_int HR0.out x5_1 p404 q404
      cases e404
      replace p404 := eq_true p404
      replace q404 := eq_true q404
      go_wp2
      go_roundg k1
      case measure => have := HK1.out; omega
      case rel => exact ⟨(wrap64 (x5_1 + 1)), z2_, H', ⟨by have := HK1.out; omega⟩, z7_⟩
    ·rw [if_neg c4] at H
     exact absurd H (by simp)
   ·rw [if_neg c3] at H
    have c3b0 : decide (x5_1 < (l0.length : Int)) = false := decide_eq_false c3
    clear c3
    obtain rfl := Option.some.inj H
    go_wp2
    go_ret
    exact ⟨z2_, z7_⟩

/-! ### spec_IsTeam: function 17 -/
def spec_IsTeam.f (k : Nat) (l0 : List (S41)) (l1 : List Int) : Option (Bool × Bool) := (spec_l5Asked.f k l0 l1).bind fun t405 => (if t405 = true then ((spec_l5Team.f k l0 l1).bind fun t406 => (some (t406, true))) else (some (false, false)))
set_option maxHeartbeats 8000000 in
set_option maxRecDepth 100000 in
theorem spec_IsTeam.calls (k : Nat) (A0 : Option Addr) (c0 : Nat) (l0 : List (S41)) (A1 : Option Addr) (c1 : Nat) (l1 : List Int) (r1 : Bool) (r2 : Bool) (w : World) (hr0 : Kd.C k41 w A0 l0.length l0) (hc0 : l0.length ≤ c0) (hr1 : Kd.C (Kd.int .i64) w A1 l1.length l1) (hc1 : l1.length ≤ c1) (h : spec_IsTeam.f k l0 l1 = some (r1, r2)) :
  Calls Tryz.prog 17 #[.slice A0 l0.length c0, .slice A1 l1.length c1] w fun e w' => e = .returned (.tuple #[.bool r1, .bool r2]) ∧ Below w.heap.size w w' := by
 have HR0 := Aside0.mk hr0; have HC0 := Aside0.mk hc0; clear hr0 hc0; have HR1 := Aside0.mk hr1; have HC1 := Aside0.mk hc1; clear hr1 hc1
 have HB := Aside0.mk (Below.refl w.heap.size w)
 have H : ((spec_l5Asked.f k l0 l1).bind fun t405 => (if t405 = true then ((spec_l5Team.f k l0 l1).bind fun t406 => (some (t406, true))) else (some (false, false)))) = some (r1, r2) := h
 clear h; replace H := Option.bind_eq_some_iff.mp H; obtain ⟨t405, A30, H⟩ := H
 replace H : (if t405 = true then ((spec_l5Team.f k l0 l1).bind fun t406 => (some (t406, true))) else (some (false, false))) = some (r1, r2) := H
 have A3 := Aside0.mk A30; clear A30
 by_cases c4 : t405 = true
 ·subst c4
  have H1 : ((spec_l5Team.f k l0 l1).bind fun t406 => (some (t406, true))) = some (r1, r2) := by rw [if_pos rfl] at H; exact H
  clear H; have H := H1; clear H1; replace H := Option.bind_eq_some_iff.mp H; obtain ⟨t406, A50, H⟩ := H
  replace H : (some (t406, true)) = some (r1, r2) := H
  have A5 := Aside0.mk A50; clear A50
  simp only [Option.some.injEq, Prod.mk.injEq] at H
  obtain ⟨rfl, rfl⟩ := H
  go_enter Tryz.func17, Tryz.ntmps17
  go_wp2_with (first | ((with_reducible refine gate_callee (f := 50) rfl ?_); refine goesL_ (some 8) rfl rfl Tryz.func50 (by kernel_rfl) rfl #[.slice A0 l0.length c0, .slice A1 l1.length c1] rfl gl_ ?_; (with_reducible refine (spec_l5Asked.calls k _ _ l0 _ _ l1 true _ ?side1 ?side2 ?side3 ?side4 A3.out).mono ?_); (case side1 => exact z11_); (case side2 => exact HC0.out); (case side3 => repeat (first | exact HR1.out | (with_reducible refine Kd.C_alloc ?_ _) | (with_reducible refine Kd.C_drewN ?_ _) | (with_reducible refine Kd.C_drew ?_))); (case side4 => exact HC1.out); rintro e w6 ⟨rfl, hb⟩; refine ⟨_, rfl, ?_⟩; have n0_ := Aside0.mk (below_step bx_ hb); clear HB; have HB := n0_; clear n0_; (try clear hb); (try clear hk); (try clear hi)) | ((with_reducible refine gate_callee (f := 41) rfl ?_); refine goesL_ (some 12) rfl rfl Tryz.func41 (by kernel_rfl) rfl #[.slice A0 l0.length c0, .slice A1 l1.length c1] rfl gl_ ?_; (with_reducible refine (spec_l5Team.calls k _ _ l0 _ _ l1 t406 _ ?side1 ?side2 ?side3 ?side4 A5.out).mono ?_); (case side1 => exact z14_); (case side2 => exact HC0.out); (case side3 => exact z37_); (case side4 => exact HC1.out); rintro e w7 ⟨rfl, hb⟩; refine ⟨_, rfl, ?_⟩; have n0_ := Aside0.mk (below_step bx_ hb); clear HB; have HB := n0_; clear n0_; (try clear hb); (try clear hk); (try clear hi)))
  go_ret2
  exact ⟨z6_, z5_⟩
 ·replace c4 := Bool.eq_false_iff.mpr c4
  subst c4
  have H1 : (some (false, false)) = some (r1, r2) := by rw [if_neg (show ¬ (false = true) by decide)] at H; exact H
  clear H; have H := H1; clear H1
  simp only [Option.some.injEq, Prod.mk.injEq] at H
  obtain ⟨rfl, rfl⟩ := H
  go_enter Tryz.func17, Tryz.ntmps17
  go_wp2_with (first | ((with_reducible refine gate_callee (f := 50) rfl ?_); refine goesL_ (some 8) rfl rfl Tryz.func50 (by kernel_rfl) rfl #[.slice A0 l0.length c0, .slice A1 l1.length c1] rfl gl_ ?_; (with_reducible refine (spec_l5Asked.calls k _ _ l0 _ _ l1 false _ ?side1 ?side2 ?side3 ?side4 A3.out).mono ?_); (case side1 => exact z11_); (case side2 => exact HC0.out); (case side3 => repeat (first | exact HR1.out | (with_reducible refine Kd.C_alloc ?_ _) | (with_reducible refine Kd.C_drewN ?_ _) | (with_reducible refine Kd.C_drew ?_))); (case side4 => exact HC1.out); rintro e w8 ⟨rfl, hb⟩; refine ⟨_, rfl, ?_⟩; have n0_ := Aside0.mk (below_step bx_ hb); clear HB; have HB := n0_; clear n0_; (try clear hb); (try clear hk); (try clear hi)))
  go_ret2
  exact ⟨z6_, z5_⟩

/-! ### spec_DrawMissingSkills_in: function 18 -/
def spec_DrawMissingSkills_in.f (k : Nat) (s0_0 : List Int) (s0_1 : Int) (s0_2 : Int) : Option ((List (S41)) × List Int × Int × Int × Int) := (spec_l1Cur_people.f k s0_0 s0_1 s0_2).bind fun bt407 => ((spec_l1Cur_team.f k s0_0 bt407.2.1 bt407.2.2 bt407.1).bind fun bt412 => ((spec_l1Cur_skills.f s0_0 bt412.2.1 bt412.2.2).bind fun bt417 => (some (bt407.1, bt412.1, bt417.1, bt417.2.1, bt417.2.2))))
set_option maxHeartbeats 8000000 in
set_option maxRecDepth 100000 in
theorem spec_DrawMissingSkills_in.calls (k : Nat) (A0 : Option Addr) (c0 : Nat) (l0 : List Int) (r1 : List (S41)) (r2 : List Int) (r3 : Int) (r4 : Int) (r5 : Int) (w : World) (hr0 : Kd.C (Kd.int .u8) w A0 l0.length l0) (hc0 : l0.length ≤ c0) (h : spec_DrawMissingSkills_in.f k l0 0 0 = some (r1, r2, r3, r4, r5)) :
  Calls Tryz.prog 18 #[.slice A0 l0.length c0] w fun e w' => ∃ v0_ v1_ : Value, e = .returned (.tuple #[v0_, v1_, .int .i64 r3]) ∧ Kd.R k41 41 w' (w.alloc (.cells #[.slice A0 l0.length c0, .int .i64 0, .int .u64 0] 68)).heap.size (fun _ => True) v0_ r1 ∧ Kd.R (Kd.int .i64) 3 w' (w.alloc (.cells #[.slice A0 l0.length c0, .int .i64 0, .int .u64 0] 68)).heap.size (fun _ => True) v1_ r2 ∧ IsS68 w w' w.heap.size l0 r4 r5 ∧ Below w.heap.size w w' ∧ KeepBut (w.alloc (.cells #[.slice A0 l0.length c0, .int .i64 0, .int .u64 0] 68)) w' w.heap.size none := by
 have hI : IsS68 w (w.alloc (.cells #[.slice A0 l0.length c0, .int .i64 0, .int .u64 0] 68)) w.heap.size l0 0 0 := ⟨A0, c0, heap_alloc_new w _, Nat.le_refl _, hr0⟩
 have hB : Below w.heap.size w (w.alloc (.cells #[.slice A0 l0.length c0, .int .i64 0, .int .u64 0] 68)) := below_alloc (Below.refl _ _) _
 clear hr0; have HI0 := Aside0.mk hI
 have HK := Aside0.mk (KeepBut.refl (w.alloc (.cells #[.slice A0 l0.length c0, .int .i64 0, .int .u64 0] 68)) w.heap.size none)
 have HL := Aside0.mk hB.size; clear hI; have HW0 := Aside0.mk hB.size; have HB := Aside0.mk hB; clear hB
 have H : ((spec_l1Cur_people.f k l0 0 0).bind fun bt407 => ((spec_l1Cur_team.f k l0 bt407.2.1 bt407.2.2 bt407.1).bind fun bt412 => ((spec_l1Cur_skills.f l0 bt412.2.1 bt412.2.2).bind fun bt417 => (some (bt407.1, bt412.1, bt417.1, bt417.2.1, bt417.2.2))))) = some (r1, r2, r3, r4, r5) := h
 clear h; replace H := Option.bind_eq_some_iff.mp H; obtain ⟨⟨t407, t410, t411⟩, A20, H⟩ := H
 replace H : ((spec_l1Cur_team.f k l0 t410 t411 t407).bind fun bt412 => ((spec_l1Cur_skills.f l0 bt412.2.1 bt412.2.2).bind fun bt417 => (some (t407, bt412.1, bt417.1, bt417.2.1, bt417.2.2)))) = some (r1, r2, r3, r4, r5) := H
 have A2 := Aside0.mk A20; clear A20; replace H := Option.bind_eq_some_iff.mp H; obtain ⟨⟨t412, t415, t416⟩, A30, H⟩ := H
 replace H : ((spec_l1Cur_skills.f l0 t415 t416).bind fun bt417 => (some (t407, t412, bt417.1, bt417.2.1, bt417.2.2))) = some (r1, r2, r3, r4, r5) := H
 have A3 := Aside0.mk A30; clear A30; replace H := Option.bind_eq_some_iff.mp H; obtain ⟨⟨t417, t418, t419⟩, A40, H⟩ := H
 replace H : (some (t407, t412, t417, t418, t419)) = some (r1, r2, r3, r4, r5) := H
 have A4 := Aside0.mk A40; clear A40
 simp only [Option.some.injEq, Prod.mk.injEq] at H
 obtain ⟨rfl, rfl, rfl, rfl, rfl⟩ := H
 go_enter Tryz.func18, Tryz.ntmps18
 go_wp2_with (first | ((with_reducible refine gate_callee (f := 52) rfl ?_); refine goesL_ (some 12) rfl rfl Tryz.func52 (by kernel_rfl) rfl #[.pointer (some ⟨w.heap.size, 0, none⟩)] rfl gl_ ?_; (with_reducible refine (spec_l1Cur_people.calls k w.heap.size l0 0 0 t407 t410 t411 w _ ?side1 ?side2 A2.out).mono ?_); (case side1 => exact z3_); (case side2 => exact z9_); rintro e w5 ⟨v408, rfl, ho0, hi, hb, hk⟩; refine ⟨_, rfl, ?_⟩; have n0_ := Aside0.mk (Kd.R_lower ho0 (keep_size (w := (w.alloc (.cells #[.slice A0 l0.length c0, .int .i64 0, .int .u64 0] 68))) (g := w.heap.size) (row := none) z4_)); have n1_ := Aside0.mk (KeepBut.trans z4_ hk (.inl rfl)); have n2_ := Aside0.mk (hb); have n3_ := Aside0.mk (hi); clear HK; clear HB; clear HI0; have HO409 := n0_; have HK := n1_; have HB := n2_; have HI0 := n3_; clear n0_ n1_ n2_ n3_; (try clear hb); (try clear hk); (try clear hi); (try clear ho0); obtain ⟨Ao6, co6, eo6⟩ := Kd.R_slice HO409.out; subst eo6) | ((with_reducible refine gate_callee (f := 53) rfl ?_); refine goesL_ (some 15) rfl rfl Tryz.func53 (by kernel_rfl) rfl #[.pointer (some ⟨w.heap.size, 0, none⟩), .slice Ao6 t407.length co6] rfl gl_ ?_; (with_reducible refine (spec_l1Cur_team.calls k w.heap.size l0 t410 t411 _ _ t407 t412 t415 t416 w _ ?side1 ?side2 ?side3 ?side4 A3.out).mono ?_); (case side1 => exact z3_); (case side2 => exact z9_); (case side3 => exact Kd.C_foot_own (IsS68.apart (show IsS68 w _ w.heap.size l0 t410 t411 from z3_) (kr_ HO409) (by decide)) (fun _ h_ => h_.2)); (case side4 => exact (Kd.R_reads' HO409.out).2.1); rintro e w7 ⟨v413, rfl, ho0, hi, hb, hk⟩; refine ⟨_, rfl, ?_⟩; have n0_ := Aside0.mk (Kd.R_mono (Kd.R_keep (IsS68.apart (show IsS68 w _ w.heap.size l0 t410 t411 from z3_) (kr_ HO409) (by decide)) hk (fun _ h => h.2)) (fun _ h => h.1)); have n1_ := Aside0.mk (Kd.R_lower ho0 (keep_size (w := (w.alloc (.cells #[.slice A0 l0.length c0, .int .i64 0, .int .u64 0] 68))) (g := w.heap.size) (row := none) z4_)); have n2_ := Aside0.mk (KeepBut.trans z4_ hk (.inl rfl)); have n3_ := Aside0.mk (hb); have n4_ := Aside0.mk (hi); clear HO409; clear HK; clear HB; clear HI0; have HO409 := n0_; have HO414 := n1_; have HK := n2_; have HB := n3_; have HI0 := n4_; clear n0_ n1_ n2_ n3_ n4_; (try clear hb); (try clear hk); (try clear hi); (try clear ho0)) | ((with_reducible refine gate_callee (f := 54) rfl ?_); refine goesL_ (some 19) rfl rfl Tryz.func54 (by kernel_rfl) rfl #[.pointer (some ⟨w.heap.size, 0, none⟩)] rfl gl_ ?_; (with_reducible refine (spec_l1Cur_skills.calls w.heap.size l0 t415 t416 t417 t418 t419 w _ ?side1 ?side2 A4.out).mono ?_); (case side1 => exact z3_); (case side2 => exact z9_); rintro e w8 ⟨rfl, hi, hb, hk⟩; refine ⟨_, rfl, ?_⟩; have n0_ := Aside0.mk (Kd.R_mono (Kd.R_keep (IsS68.apart (show IsS68 w _ w.heap.size l0 t415 t416 from z3_) (kr_ HO409) (by decide)) hk (fun _ h => h.2)) (fun _ h => h.1)); have n1_ := Aside0.mk (Kd.R_mono (Kd.R_keep (IsS68.apart (show IsS68 w _ w.heap.size l0 t415 t416 from z3_) (kr_ HO414) (by decide)) hk (fun _ h => h.2)) (fun _ h => h.1)); have n2_ := Aside0.mk (KeepBut.trans z4_ hk (.inl rfl)); have n3_ := Aside0.mk (hb); have n4_ := Aside0.mk (hi); clear HO409; clear HO414; clear HK; clear HB; clear HI0; have HO409 := n0_; have HO414 := n1_; have HK := n2_; have HB := n3_; have HI0 := n4_; clear n0_ n1_ n2_ n3_ n4_; (try clear hb); (try clear hk); (try clear hi)))
 go_ret3
 exact ⟨_, _, z6_, by (with_reducible repeat (first | apply Kd.R_alloc | apply Kd.R_drewN | apply Kd.R_drew)); exact HO409.out, by (with_reducible repeat (first | apply Kd.R_alloc | apply Kd.R_drewN | apply Kd.R_drew)); exact HO414.out, z3_, z9_, z4_⟩

/-! ### spec_DrawMissingSkills: function 18 -/
def spec_DrawMissingSkills.f (k : Nat) (l0 : List Int) : Option ((List (S41)) × List Int × Int) := (spec_DrawMissingSkills_in.f k l0 0 0).bind fun t => some (t.1, t.2.1, t.2.2.1)
theorem spec_DrawMissingSkills.calls (k : Nat) (A0 : Option Addr) (c0 : Nat) (l0 : List Int) (r1 : List (S41)) (r2 : List Int) (r3 : Int) (w : World) (hr0 : Kd.C (Kd.int .u8) w A0 l0.length l0) (hc0 : l0.length ≤ c0) (h : spec_DrawMissingSkills.f k l0 = some (r1, r2, r3)) :
  Calls Tryz.prog 18 #[.slice A0 l0.length c0] w fun e w' => ∃ v0_ v1_ : Value, e = .returned (.tuple #[v0_, v1_, .int .i64 r3]) ∧ Kd.R k41 41 w' w.heap.size (fun _ => True) v0_ r1 ∧ Kd.R (Kd.int .i64) 3 w' w.heap.size (fun _ => True) v1_ r2 ∧ Below w.heap.size w w' := by
 unfold spec_DrawMissingSkills.f at h
 obtain ⟨⟨r1, r2, r3, r4, r5⟩, h1, h2⟩ := Option.bind_eq_some_iff.mp h
 simp only [Option.some.injEq, Prod.mk.injEq] at h2
 obtain ⟨rfl, rfl, rfl⟩ := h2
 refine (spec_DrawMissingSkills_in.calls k A0 c0 l0 r1 r2 r3 r4 r5 w hr0 hc0 h1).mono ?_
 rintro e w' ⟨v0_, v1_, he_, h1_, h2_, _, hb_, _⟩
 exact ⟨v0_, v1_, he_, Kd.R_lower h1_ (below_size (below_alloc (Below.refl _ w) _)), Kd.R_lower h2_ (below_size (below_alloc (Below.refl _ w) _)), hb_⟩

/-! ### spec_MissingSkills: function 19 -/
def spec_MissingSkills.f (k : Nat) (l0 : List (S41)) (l1 : List Int) (a2 : Int) : Option (Int × Bool) := (spec_l5Asked.f k l0 l1).bind fun t420 => (if t420 = true then ((spec_l5Team.f k l0 l1).bind fun t421 => (if t421 = true then ((spec_l5Skills.f a2).bind fun t422 => (if t422 = true then ((spec_l5All.f k l0 l1).bind fun bt423 => (some (wrap64 (a2 - (Go.bits .and .i64 a2 bt423.1)), true))) else (some (0, false)))) else (some (0, false)))) else (some (0, false)))
set_option maxHeartbeats 8000000 in
set_option maxRecDepth 100000 in
theorem spec_MissingSkills.calls (k : Nat) (A0 : Option Addr) (c0 : Nat) (l0 : List (S41)) (A1 : Option Addr) (c1 : Nat) (l1 : List Int) (a2 : Int) (r1 : Int) (r2 : Bool) (w : World) (hr0 : Kd.C k41 w A0 l0.length l0) (hc0 : l0.length ≤ c0) (hr1 : Kd.C (Kd.int .i64) w A1 l1.length l1) (hc1 : l1.length ≤ c1) (h : spec_MissingSkills.f k l0 l1 a2 = some (r1, r2)) :
  Calls Tryz.prog 19 #[.slice A0 l0.length c0, .slice A1 l1.length c1, .int .i64 a2] w fun e w' => e = .returned (.tuple #[.int .i64 r1, .bool r2]) ∧ Below w.heap.size w w' := by
 have HR0 := Aside0.mk hr0; have HC0 := Aside0.mk hc0; clear hr0 hc0; have HR1 := Aside0.mk hr1; have HC1 := Aside0.mk hc1; clear hr1 hc1
 have HB := Aside0.mk (Below.refl w.heap.size w)
 have H : ((spec_l5Asked.f k l0 l1).bind fun t420 => (if t420 = true then ((spec_l5Team.f k l0 l1).bind fun t421 => (if t421 = true then ((spec_l5Skills.f a2).bind fun t422 => (if t422 = true then ((spec_l5All.f k l0 l1).bind fun bt423 => (some (wrap64 (a2 - (Go.bits .and .i64 a2 bt423.1)), true))) else (some (0, false)))) else (some (0, false)))) else (some (0, false)))) = some (r1, r2) := h
 clear h; replace H := Option.bind_eq_some_iff.mp H; obtain ⟨t420, A40, H⟩ := H
 replace H : (if t420 = true then ((spec_l5Team.f k l0 l1).bind fun t421 => (if t421 = true then ((spec_l5Skills.f a2).bind fun t422 => (if t422 = true then ((spec_l5All.f k l0 l1).bind fun bt423 => (some (wrap64 (a2 - (Go.bits .and .i64 a2 bt423.1)), true))) else (some (0, false)))) else (some (0, false)))) else (some (0, false))) = some (r1, r2) := H
 have A4 := Aside0.mk A40; clear A40
 by_cases c5 : t420 = true
 ·subst c5
  have H1 : ((spec_l5Team.f k l0 l1).bind fun t421 => (if t421 = true then ((spec_l5Skills.f a2).bind fun t422 => (if t422 = true then ((spec_l5All.f k l0 l1).bind fun bt423 => (some (wrap64 (a2 - (Go.bits .and .i64 a2 bt423.1)), true))) else (some (0, false)))) else (some (0, false)))) = some (r1, r2) := by rw [if_pos rfl] at H; exact H
  clear H; have H := H1; clear H1; replace H := Option.bind_eq_some_iff.mp H; obtain ⟨t421, A60, H⟩ := H
  replace H : (if t421 = true then ((spec_l5Skills.f a2).bind fun t422 => (if t422 = true then ((spec_l5All.f k l0 l1).bind fun bt423 => (some (wrap64 (a2 - (Go.bits .and .i64 a2 bt423.1)), true))) else (some (0, false)))) else (some (0, false))) = some (r1, r2) := H
  have A6 := Aside0.mk A60; clear A60
  by_cases c7 : t421 = true
  ·subst c7
   have H1 : ((spec_l5Skills.f a2).bind fun t422 => (if t422 = true then ((spec_l5All.f k l0 l1).bind fun bt423 => (some (wrap64 (a2 - (Go.bits .and .i64 a2 bt423.1)), true))) else (some (0, false)))) = some (r1, r2) := by rw [if_pos rfl] at H; exact H
   clear H; have H := H1; clear H1; replace H := Option.bind_eq_some_iff.mp H; obtain ⟨t422, A80, H⟩ := H
   replace H : (if t422 = true then ((spec_l5All.f k l0 l1).bind fun bt423 => (some (wrap64 (a2 - (Go.bits .and .i64 a2 bt423.1)), true))) else (some (0, false))) = some (r1, r2) := H
   have A8 := Aside0.mk A80; clear A80
   by_cases c9 : t422 = true
   ·subst c9
    have H1 : ((spec_l5All.f k l0 l1).bind fun bt423 => (some (wrap64 (a2 - (Go.bits .and .i64 a2 bt423.1)), true))) = some (r1, r2) := by rw [if_pos rfl] at H; exact H
    clear H; have H := H1; clear H1; replace H := Option.bind_eq_some_iff.mp H; obtain ⟨⟨t423, t424⟩, A100, H⟩ := H
    replace H : (some (wrap64 (a2 - (Go.bits .and .i64 a2 t423)), true)) = some (r1, r2) := H
    have A10 := Aside0.mk A100; clear A100
    simp only [Option.some.injEq, Prod.mk.injEq] at H
    obtain ⟨rfl, rfl⟩ := H
    go_enter Tryz.func19, Tryz.ntmps19
    go_wp2_with (first | ((with_reducible refine gate_callee (f := 50) rfl ?_); refine goesL_ (some 12) rfl rfl Tryz.func50 (by kernel_rfl) rfl #[.slice A0 l0.length c0, .slice A1 l1.length c1] rfl gl_ ?_; (with_reducible refine (spec_l5Asked.calls k _ _ l0 _ _ l1 true _ ?side1 ?side2 ?side3 ?side4 A4.out).mono ?_); (case side1 => exact z11_); (case side2 => exact HC0.out); (case side3 => repeat (first | exact HR1.out | (with_reducible refine Kd.C_alloc ?_ _) | (with_reducible refine Kd.C_drewN ?_ _) | (with_reducible refine Kd.C_drew ?_))); (case side4 => exact HC1.out); rintro e w11 ⟨rfl, hb⟩; refine ⟨_, rfl, ?_⟩; have n0_ := Aside0.mk (below_step bx_ hb); clear HB; have HB := n0_; clear n0_; (try clear hb); (try clear hk); (try clear hi)) | (go_at_call 41; (with_reducible refine (spec_l5Team.calls k _ _ l0 _ _ l1 true _ ?side1 ?side2 ?side3 ?side4 A6.out).mono ?_); (case side1 => exact z14_); (case side2 => exact HC0.out); (case side3 => exact z37_); (case side4 => exact HC1.out); rintro e w12 ⟨rfl, hb⟩; have n0_ := Aside0.mk (below_step bx_ hb); clear HB; have HB := n0_; clear n0_; (try clear hb); (try clear hk); (try clear hi)) | (go_at_call 39; (with_reducible refine (spec_l5Skills.calls a2 true _ A8.out).mono ?_); rintro e w' ⟨rfl, ⟨nd, rfl⟩⟩) | ((with_reducible refine gate_callee (f := 42) rfl ?_); refine goesL_ (some 28) rfl rfl Tryz.func42 (by kernel_rfl) rfl #[.slice A0 l0.length c0, .slice A1 l1.length c1] rfl gl_ ?_; (with_reducible refine (spec_l5All.calls k _ _ l0 _ _ l1 t423 t424 _ ?side1 ?side2 ?side3 ?side4 A10.out).mono ?_); (case side1 => repeat (first | exact (Kd.C_below HR0.out bx_) | (with_reducible refine Kd.C_alloc ?_ _) | (with_reducible refine Kd.C_drewN ?_ _) | (with_reducible refine Kd.C_drew ?_))); (case side2 => exact HC0.out); (case side3 => repeat (first | exact (Kd.C_below HR1.out bx_) | (with_reducible refine Kd.C_alloc ?_ _) | (with_reducible refine Kd.C_drewN ?_ _) | (with_reducible refine Kd.C_drew ?_))); (case side4 => exact HC1.out); rintro e w13 ⟨rfl, hb⟩; refine ⟨_, rfl, ?_⟩; have n0_ := Aside0.mk (below_step bx_ hb); clear HB; have HB := n0_; clear n0_; (try clear hb); (try clear hk); (try clear hi)))
    go_ret2
    exact ⟨z6_, z5_⟩
   ·replace c9 := Bool.eq_false_iff.mpr c9
    subst c9
    have H1 : (some (0, false)) = some (r1, r2) := by rw [if_neg (show ¬ (false = true) by decide)] at H; exact H
    clear H; have H := H1; clear H1
    simp only [Option.some.injEq, Prod.mk.injEq] at H
    obtain ⟨rfl, rfl⟩ := H
    go_enter Tryz.func19, Tryz.ntmps19
    go_wp2_with (first | ((with_reducible refine gate_callee (f := 50) rfl ?_); refine goesL_ (some 12) rfl rfl Tryz.func50 (by kernel_rfl) rfl #[.slice A0 l0.length c0, .slice A1 l1.length c1] rfl gl_ ?_; (with_reducible refine (spec_l5Asked.calls k _ _ l0 _ _ l1 true _ ?side1 ?side2 ?side3 ?side4 A4.out).mono ?_); (case side1 => exact z11_); (case side2 => exact HC0.out); (case side3 => repeat (first | exact HR1.out | (with_reducible refine Kd.C_alloc ?_ _) | (with_reducible refine Kd.C_drewN ?_ _) | (with_reducible refine Kd.C_drew ?_))); (case side4 => exact HC1.out); rintro e w14 ⟨rfl, hb⟩; refine ⟨_, rfl, ?_⟩; have n0_ := Aside0.mk (below_step bx_ hb); clear HB; have HB := n0_; clear n0_; (try clear hb); (try clear hk); (try clear hi)) | (go_at_call 41; (with_reducible refine (spec_l5Team.calls k _ _ l0 _ _ l1 true _ ?side1 ?side2 ?side3 ?side4 A6.out).mono ?_); (case side1 => exact z14_); (case side2 => exact HC0.out); (case side3 => exact z37_); (case side4 => exact HC1.out); rintro e w15 ⟨rfl, hb⟩; have n0_ := Aside0.mk (below_step bx_ hb); clear HB; have HB := n0_; clear n0_; (try clear hb); (try clear hk); (try clear hi)) | (go_at_call 39; (with_reducible refine (spec_l5Skills.calls a2 false _ A8.out).mono ?_); rintro e w' ⟨rfl, ⟨nd, rfl⟩⟩))
    go_ret2
    exact ⟨z6_, z5_⟩
  ·replace c7 := Bool.eq_false_iff.mpr c7
   subst c7
   have H1 : (some (0, false)) = some (r1, r2) := by rw [if_neg (show ¬ (false = true) by decide)] at H; exact H
   clear H; have H := H1; clear H1
   simp only [Option.some.injEq, Prod.mk.injEq] at H
   obtain ⟨rfl, rfl⟩ := H
   go_enter Tryz.func19, Tryz.ntmps19
   go_wp2_with (first | ((with_reducible refine gate_callee (f := 50) rfl ?_); refine goesL_ (some 12) rfl rfl Tryz.func50 (by kernel_rfl) rfl #[.slice A0 l0.length c0, .slice A1 l1.length c1] rfl gl_ ?_; (with_reducible refine (spec_l5Asked.calls k _ _ l0 _ _ l1 true _ ?side1 ?side2 ?side3 ?side4 A4.out).mono ?_); (case side1 => exact z11_); (case side2 => exact HC0.out); (case side3 => repeat (first | exact HR1.out | (with_reducible refine Kd.C_alloc ?_ _) | (with_reducible refine Kd.C_drewN ?_ _) | (with_reducible refine Kd.C_drew ?_))); (case side4 => exact HC1.out); rintro e w16 ⟨rfl, hb⟩; refine ⟨_, rfl, ?_⟩; have n0_ := Aside0.mk (below_step bx_ hb); clear HB; have HB := n0_; clear n0_; (try clear hb); (try clear hk); (try clear hi)) | (go_at_call 41; (with_reducible refine (spec_l5Team.calls k _ _ l0 _ _ l1 false _ ?side1 ?side2 ?side3 ?side4 A6.out).mono ?_); (case side1 => exact z14_); (case side2 => exact HC0.out); (case side3 => exact z37_); (case side4 => exact HC1.out); rintro e w17 ⟨rfl, hb⟩; have n0_ := Aside0.mk (below_step bx_ hb); clear HB; have HB := n0_; clear n0_; (try clear hb); (try clear hk); (try clear hi)))
   go_ret2
   exact ⟨z6_, z5_⟩
 ·replace c5 := Bool.eq_false_iff.mpr c5
  subst c5
  have H1 : (some (0, false)) = some (r1, r2) := by rw [if_neg (show ¬ (false = true) by decide)] at H; exact H
  clear H; have H := H1; clear H1
  simp only [Option.some.injEq, Prod.mk.injEq] at H
  obtain ⟨rfl, rfl⟩ := H
  go_enter Tryz.func19, Tryz.ntmps19
  go_wp2_with (first | ((with_reducible refine gate_callee (f := 50) rfl ?_); refine goesL_ (some 12) rfl rfl Tryz.func50 (by kernel_rfl) rfl #[.slice A0 l0.length c0, .slice A1 l1.length c1] rfl gl_ ?_; (with_reducible refine (spec_l5Asked.calls k _ _ l0 _ _ l1 false _ ?side1 ?side2 ?side3 ?side4 A4.out).mono ?_); (case side1 => exact z11_); (case side2 => exact HC0.out); (case side3 => repeat (first | exact HR1.out | (with_reducible refine Kd.C_alloc ?_ _) | (with_reducible refine Kd.C_drewN ?_ _) | (with_reducible refine Kd.C_drew ?_))); (case side4 => exact HC1.out); rintro e w18 ⟨rfl, hb⟩; refine ⟨_, rfl, ?_⟩; have n0_ := Aside0.mk (below_step bx_ hb); clear HB; have HB := n0_; clear n0_; (try clear hb); (try clear hk); (try clear hi)))
  go_ret2
  exact ⟨z6_, z5_⟩

/-! ### impl_SkillsOf: function 20 -/
def impl_SkillsOf.f (k : Nat) (l0 : List (S41)) (l1 : List Int) : Option (Int × Bool) := (impl_teamOf.f k l0 l1).bind fun bt425 => (if bt425.2 = true then ((impl_skills.f k bt425.1).bind fun bt429 => (some (bt429.1, true))) else (some (0, false)))
set_option maxHeartbeats 8000000 in
set_option maxRecDepth 100000 in
theorem impl_SkillsOf.calls (k : Nat) (A0 : Option Addr) (c0 : Nat) (l0 : List (S41)) (A1 : Option Addr) (c1 : Nat) (l1 : List Int) (r1 : Int) (r2 : Bool) (w : World) (hr0 : Kd.C k41 w A0 l0.length l0) (hc0 : l0.length ≤ c0) (hr1 : Kd.C (Kd.int .i64) w A1 l1.length l1) (hc1 : l1.length ≤ c1) (h : impl_SkillsOf.f k l0 l1 = some (r1, r2)) :
  Calls Tryz.prog 20 #[.slice A0 l0.length c0, .slice A1 l1.length c1] w fun e w' => e = .returned (.tuple #[.int .i64 r1, .bool r2]) ∧ Below w.heap.size w w' := by
 have HR0 := Aside0.mk hr0; have HC0 := Aside0.mk hc0; clear hr0 hc0; have HR1 := Aside0.mk hr1; have HC1 := Aside0.mk hc1; clear hr1 hc1
 have HB := Aside0.mk (Below.refl w.heap.size w)
 have H : ((impl_teamOf.f k l0 l1).bind fun bt425 => (if bt425.2 = true then ((impl_skills.f k bt425.1).bind fun bt429 => (some (bt429.1, true))) else (some (0, false)))) = some (r1, r2) := h
 clear h; replace H := Option.bind_eq_some_iff.mp H; obtain ⟨⟨t425, t426⟩, A30, H⟩ := H
 replace H : (if t426 = true then ((impl_skills.f k t425).bind fun bt429 => (some (bt429.1, true))) else (some (0, false))) = some (r1, r2) := H
 have A3 := Aside0.mk A30; clear A30
 by_cases c4 : t426 = true
 ·subst c4
  have H1 : ((impl_skills.f k t425).bind fun bt429 => (some (bt429.1, true))) = some (r1, r2) := by rw [if_pos rfl] at H; exact H
  clear H; have H := H1; clear H1; replace H := Option.bind_eq_some_iff.mp H; obtain ⟨⟨t429, t430⟩, A50, H⟩ := H
  replace H : (some (t429, true)) = some (r1, r2) := H
  have A5 := Aside0.mk A50; clear A50
  simp only [Option.some.injEq, Prod.mk.injEq] at H
  obtain ⟨rfl, rfl⟩ := H
  go_enter Tryz.func20, Tryz.ntmps20
  go_wp2_with (first | ((with_reducible refine gate_callee (f := 46) rfl ?_); refine goesL_ (some 13) rfl rfl Tryz.func46 (by kernel_rfl) rfl #[.slice A0 l0.length c0, .slice A1 l1.length c1] rfl gl_ ?_; (with_reducible refine (impl_teamOf.calls k _ _ l0 _ _ l1 t425 true _ ?side1 ?side2 ?side3 ?side4 A3.out).mono ?_); (case side1 => exact z11_); (case side2 => exact HC0.out); (case side3 => repeat (first | exact HR1.out | (with_reducible refine Kd.C_alloc ?_ _) | (with_reducible refine Kd.C_drewN ?_ _) | (with_reducible refine Kd.C_drew ?_))); (case side4 => exact HC1.out); rintro e w6 ⟨v427, rfl, ho0, hb⟩; refine ⟨_, rfl, ?_⟩; have n0_ := Aside0.mk (Kd.R_lower ho0 (below_size bx_)); have n1_ := Aside0.mk (below_step bx_ hb); clear HB; have HO428 := n0_; have HB := n1_; clear n0_ n1_; (try clear hb); (try clear hk); (try clear hi); (try clear ho0); obtain ⟨Ao7, co7, eo7⟩ := Kd.R_slice HO428.out; subst eo7) | ((with_reducible refine gate_callee (f := 36) rfl ?_); refine goesL_ (some 20) rfl rfl Tryz.func36 (by kernel_rfl) rfl #[.slice Ao7 t425.length co7] rfl gl_ ?_; (with_reducible refine (impl_skills.calls k _ _ t425 t429 t430 _ ?side1 ?side2 A5.out).mono ?_); (case side1 => repeat (first | exact (Kd.R_reads' HO428.out).2.2 | (with_reducible refine Kd.C_alloc ?_ _) | (with_reducible refine Kd.C_drewN ?_ _) | (with_reducible refine Kd.C_drew ?_))); (case side2 => exact (Kd.R_reads' HO428.out).2.1); rintro e w8 ⟨rfl, hb⟩; refine ⟨_, rfl, ?_⟩; have n0_ := Aside0.mk (Kd.R_below (kr_ HO428) hb); have n1_ := Aside0.mk (below_step bx_ hb); clear HO428; clear HB; have HO428 := n0_; have HB := n1_; clear n0_ n1_; (try clear hb); (try clear hk); (try clear hi)))
  go_ret2
  exact ⟨z6_, z5_⟩
 ·replace c4 := Bool.eq_false_iff.mpr c4
  subst c4
  have H1 : (some (0, false)) = some (r1, r2) := by rw [if_neg (show ¬ (false = true) by decide)] at H; exact H
  clear H; have H := H1; clear H1
  simp only [Option.some.injEq, Prod.mk.injEq] at H
  obtain ⟨rfl, rfl⟩ := H
  go_enter Tryz.func20, Tryz.ntmps20
  go_wp2_with (first | ((with_reducible refine gate_callee (f := 46) rfl ?_); refine goesL_ (some 13) rfl rfl Tryz.func46 (by kernel_rfl) rfl #[.slice A0 l0.length c0, .slice A1 l1.length c1] rfl gl_ ?_; (with_reducible refine (impl_teamOf.calls k _ _ l0 _ _ l1 t425 false _ ?side1 ?side2 ?side3 ?side4 A3.out).mono ?_); (case side1 => exact z11_); (case side2 => exact HC0.out); (case side3 => repeat (first | exact HR1.out | (with_reducible refine Kd.C_alloc ?_ _) | (with_reducible refine Kd.C_drewN ?_ _) | (with_reducible refine Kd.C_drew ?_))); (case side4 => exact HC1.out); rintro e w9 ⟨v427, rfl, ho0, hb⟩; refine ⟨_, rfl, ?_⟩; have n0_ := Aside0.mk (Kd.R_lower ho0 (below_size bx_)); have n1_ := Aside0.mk (below_step bx_ hb); clear HB; have HO428 := n0_; have HB := n1_; clear n0_ n1_; (try clear hb); (try clear hk); (try clear hi); (try clear ho0)))
  go_ret2
  exact ⟨z6_, z5_⟩

end Go.Proofs.YtafdklajmklmkaaGreatDoor.XFnTeams
