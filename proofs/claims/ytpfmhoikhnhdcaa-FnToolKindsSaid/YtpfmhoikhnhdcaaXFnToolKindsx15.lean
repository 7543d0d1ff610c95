/- Contracts of the functions that the law FnToolKinds comes to: each is told as a plain function of its arguments, and the machine's call does what that function says; no condition. Written by programs (print.py, xprint.py); Lean checks it. -/
import Derived.Test.YtpfmhoikhnhdcaaXFnToolKindsx0
import Derived.Test.YtpfmhoikhnhdcaaXFnToolKindsx2
import Derived.Test.YtpfmhoikhnhdcaaXFnToolKindsx3
import Derived.Test.YtpfmhoikhnhdcaaXFnToolKindsx7
import Derived.Test.YtpfmhoikhnhdcaaXFnToolKindsx14
namespace Go.Proofs.Ytpfmhoikhnhdcaa.XFnToolKinds
open Go.RowKit Go.Proofs.YtpfmhoikhnhdcaaW.PrintWords Go.Proofs.YtpfmhoikhnhdcaaW.PrintLast Go.Proofs.YtpfmhoikhnhdcaaW.PrintMore
open List renaming setIfInBounds_toArray → zA, set_cons_zero → zB, set_cons_succ → zC
attribute [local go_sem] max2_int min2_int max_two min_two max_three min_three max_four min_four   -- for this text's walks alone
set_option linter.unusedVariables false
set_option linter.unusedSimpArgs false

/-! ### spec_DrawReadBack: function 74 -/
def spec_DrawReadBack.f (k : Nat) (l0 : List Int) : Option (Int × Int × Int × Int × Int) := (spec_DrawCorrectReading.f k l0).bind fun bt399 => (some (bt399.1, bt399.2.1, bt399.2.2.1, bt399.2.2.2.1, bt399.2.2.2.2))
theorem spec_DrawReadBack.mono : ∀ a0 k, LeO (spec_DrawReadBack.f k a0) (spec_DrawReadBack.f (k + 1) a0) := by
 intro a0 k
 unfold spec_DrawReadBack.f
 repeat' first
   | (with_reducible exact spec_DrawCorrectReading.mono _ _)
   | (with_reducible exact LeO.refl _)
   | (with_reducible exact LeO.none _)
   | (with_reducible refine LeO.ite ?_ ?_)
   | (with_reducible refine LeO.bind ?_ (fun _ => ?_))
   | exact spec_DrawCorrectReading.mono _ _
   | exact LeO.none _
   | refine LeO.ite ?_ ?_
   | refine LeO.bind ?_ (fun _ => ?_)
set_option maxHeartbeats 8000000 in
set_option maxRecDepth 100000 in
theorem spec_DrawReadBack.calls (k : Nat) (A0 : Option Addr) (c0 : Nat) (l0 : List Int) (r1 : Int) (r2 : Int) (r3 : Int) (r4 : Int) (r5 : Int) (w : World) (hr0 : Kd.C (Kd.int .u8) w A0 l0.length l0) (hc0 : l0.length ≤ c0) (h : spec_DrawReadBack.f k l0 = some (r1, r2, r3, r4, r5)) :
  Calls Try.prog 74 #[.slice A0 l0.length c0] w fun e w' => e = .returned (.tuple #[.agg #[.int .i64 r1, .int .i64 r2, .int .i64 r3, .int .i64 r4], .int .i64 r5]) ∧ Below w.heap.size w w' := by
 have hu44 := Try.underlying44; have HR0 := Aside0.mk hr0; have HC0 := Aside0.mk hc0; clear hr0 hc0
 have HB := Aside0.mk (Below.refl w.heap.size w)
 have H : ((spec_DrawCorrectReading.f k l0).bind fun bt399 => (some (bt399.1, bt399.2.1, bt399.2.2.1, bt399.2.2.2.1, bt399.2.2.2.2))) = some (r1, r2, r3, r4, r5) := h
 clear h; replace H := Option.bind_eq_some_iff.mp H; obtain ⟨⟨t399, t400, t401, t402, t403⟩, A20, H⟩ := H
 replace H : (some (t399, t400, t401, t402, t403)) = some (r1, r2, r3, r4, r5) := H
 have A2 := Aside0.mk A20; clear A20
 simp only [Option.some.injEq, Prod.mk.injEq] at H
 obtain ⟨rfl, rfl, rfl, rfl, rfl⟩ := H
 go_enter Try.func74, Try.ntmps74
 go_wp2_with (first | ((with_reducible refine gate_dst (N := 2) rfl ?_); refine box_event ?hg (N := 2) ?hd (cs := #[.int .i64 0, .int .i64 0, .int .i64 0, .int .i64 0]) (t := 44) ?hr ?_; (case hd => rfl); (case hg => rfl); (case hr => first | (go_simp; done) | (go_simp; rfl)); intro gb398 hg w3 hbox hb; have n0_ := Aside0.mk (below_step bx_ hb); have n1_ := Aside0.mk (hbox); have n2_ := Aside0.mk ((by rw [hg]; exact (below_size bx_) : w.heap.size ≤ gb398)); have n3_ := Aside0.mk ((by rw [hg]; exact (below_size bx_) : w.heap.size ≤ gb398)); clear HB; have HB := n0_; have BK398 := n1_; have GW398 := n2_; have GE398 := n3_; clear n0_ n1_ n2_ n3_; clear hb hbox hg) | ((with_reducible refine gate_callee (f := 62) rfl ?_); refine goesL_ (some 5) rfl rfl Try.func62 (by kernel_rfl) rfl #[.slice A0 l0.length c0] rfl gl_ ?_; (with_reducible refine (spec_DrawCorrectReading.calls k _ _ l0 t399 t400 t401 t402 t403 _ ?side1 ?side2 A2.out).mono ?_); (case side1 => repeat (first | exact (Kd.C_below HR0.out HB.out) | (with_reducible refine Kd.C_alloc ?_ _) | (with_reducible refine Kd.C_drewN ?_ _) | (with_reducible refine Kd.C_drew ?_))); (case side2 => exact HC0.out); rintro e w4 ⟨rfl, hb⟩; refine ⟨_, rfl, ?_⟩; have n0_ := Aside0.mk (blk_below (bk_ BK398) hb); have n1_ := Aside0.mk (below_step bx_ hb); clear BK398; clear HB; have BK398 := n0_; have HB := n1_; clear n0_ n1_; (try clear hb); have z5_0 : w4.cell? ⟨gb398, 0, none⟩ = some (.int .i64 0) := (blk_cell BK398.out 0).trans rfl; have z5_1 : w4.cell? ⟨gb398, 1, none⟩ = some (.int .i64 0) := (blk_cell BK398.out 1).trans rfl; have z5_2 : w4.cell? ⟨gb398, 2, none⟩ = some (.int .i64 0) := (blk_cell BK398.out 2).trans rfl; have z5_3 : w4.cell? ⟨gb398, 3, none⟩ = some (.int .i64 0) := (blk_cell BK398.out 3).trans rfl; have y5_0 := blk_frozen BK398.out 0; have y5_1 := blk_frozen BK398.out 1; have y5_2 := blk_frozen BK398.out 2; have y5_3 := blk_frozen BK398.out 3))
 refine bodyPost_ret (results_ct rfl _ _ gb398 44 #[.int .i64 t399, .int .i64 t400, .int .i64 t401, .int .i64 t402] (0, 0) _ rfl (by (with_reducible repeat (first | refine blk_drewN ?_ _ | refine blk_drew ?_ | refine blk_alloc ?_ _)); refine blk_put (cs := #[.int .i64 t399, .int .i64 t400, .int .i64 t401, .int .i64 0]) ?_ 3 _ rfl; (with_reducible repeat (first | refine blk_drewN ?_ _ | refine blk_drew ?_ | refine blk_alloc ?_ _)); refine blk_put (cs := #[.int .i64 t399, .int .i64 t400, .int .i64 0, .int .i64 0]) ?_ 2 _ rfl; (with_reducible repeat (first | refine blk_drewN ?_ _ | refine blk_drew ?_ | refine blk_alloc ?_ _)); refine blk_put (cs := #[.int .i64 t399, .int .i64 0, .int .i64 0, .int .i64 0]) ?_ 1 _ rfl; (with_reducible repeat (first | refine blk_drewN ?_ _ | refine blk_drew ?_ | refine blk_alloc ?_ _)); refine blk_put (cs := #[.int .i64 0, .int .i64 0, .int .i64 0, .int .i64 0]) ?_ 0 _ rfl; (with_reducible repeat (first | refine blk_drewN ?_ _ | refine blk_drew ?_ | refine blk_alloc ?_ _)); exact BK398.out) Try.underlying44 rfl (by kernel_rfl)) rfl ?_
 exact ⟨by first | rfl | (simp <;> rfl) | (simp [*] <;> rfl), by repeat (first | (with_reducible first | exact HB.out | apply below_alloc | apply pw_below_drewN | apply below_drew1 | refine below_set ?_ GE398.out) | exact HB.out)⟩

/-! ### spec_ReadBack: function 75 -/
mutual
def spec_ReadBack.j0 : Nat → Int → Bool → Int → Int → Int → Int → Option (Int × Bool)
 | 0, _, _, _, _, _, _ => none
 | k + 1, x1, x16, x405000, x405001, x405002, x405003 => if x16 = true then (some (0, false)) else (spec_ReadBack.l0 k x1 (-90) x405000 x405001 x405002 x405003)
def spec_ReadBack.l0 : Nat → Int → Int → Int → Int → Int → Int → Option (Int × Bool)
 | 0, _, _, _, _, _, _ => none
 | k + 1, x1, x6, x405000, x405001, x405002, x405003 => if x6 ≤ 1000 then ((spec_l3Reading.f x405001 x6).bind fun t407 => (if t407 = true then ((spec_l3Correct.f k x405000 x405001 x405002 x405003 x6).bind fun t408 => (if t408 = x1 then (some (x6, true)) else (spec_ReadBack.l0 k x1 (wrap64 (x6 + 1)) x405000 x405001 x405002 x405003))) else (spec_ReadBack.l0 k x1 (wrap64 (x6 + 1)) x405000 x405001 x405002 x405003))) else (some (0, false))
end
def spec_ReadBack.f (k : Nat) (a0_0 : Int) (a0_1 : Int) (a0_2 : Int) (a0_3 : Int) (a1 : Int) : Option (Int × Bool) := (spec_l3One.f a0_0 a0_1 a0_2 a0_3).bind fun t405 => (if t405 = true then ((spec_l3Reading.f a0_1 a1).bind fun t406 => (spec_ReadBack.j0 k a1 (!t406) a0_0 a0_1 a0_2 a0_3)) else (spec_ReadBack.j0 k a1 true a0_0 a0_1 a0_2 a0_3))
theorem spec_ReadBack.mono_l : ∀ k, (∀ y0 y1 y2 y3 y4 y5, LeO (spec_ReadBack.j0 k y0 y1 y2 y3 y4 y5) (spec_ReadBack.j0 (k + 1) y0 y1 y2 y3 y4 y5)) ∧ (∀ y0 y1 y2 y3 y4 y5, LeO (spec_ReadBack.l0 k y0 y1 y2 y3 y4 y5) (spec_ReadBack.l0 (k + 1) y0 y1 y2 y3 y4 y5))
 | 0 => ⟨fun _ _ _ _ _ _ r h => by simp [spec_ReadBack.j0] at h, fun _ _ _ _ _ _ r h => by simp [spec_ReadBack.l0] at h⟩
 | k + 1 => by
  obtain ⟨ih0, ih1⟩ := spec_ReadBack.mono_l k
  refine ⟨?_, ?_⟩
  ·intro y0 y1 y2 y3 y4 y5
   unfold spec_ReadBack.j0
   repeat' first
   | (with_reducible exact ih0 _ _ _ _ _ _)
   | (with_reducible exact ih1 _ _ _ _ _ _)
   | (with_reducible exact spec_l3Correct.mono _ _ _ _ _ _)
   | (with_reducible exact LeO.refl _)
   | (with_reducible exact LeO.none _)
   | (with_reducible refine LeO.ite ?_ ?_)
   | (with_reducible refine LeO.bind ?_ (fun _ => ?_))
   | exact ih0 _ _ _ _ _ _
   | exact ih1 _ _ _ _ _ _
   | exact spec_l3Correct.mono _ _ _ _ _ _
   | exact LeO.none _
   | refine LeO.ite ?_ ?_
   | refine LeO.bind ?_ (fun _ => ?_)
  ·intro y0 y1 y2 y3 y4 y5
   unfold spec_ReadBack.l0
   repeat' first
   | (with_reducible exact ih0 _ _ _ _ _ _)
   | (with_reducible exact ih1 _ _ _ _ _ _)
   | (with_reducible exact spec_l3Correct.mono _ _ _ _ _ _)
   | (with_reducible exact LeO.refl _)
   | (with_reducible exact LeO.none _)
   | (with_reducible refine LeO.ite ?_ ?_)
   | (with_reducible refine LeO.bind ?_ (fun _ => ?_))
   | exact ih0 _ _ _ _ _ _
   | exact ih1 _ _ _ _ _ _
   | exact spec_l3Correct.mono _ _ _ _ _ _
   | exact LeO.none _
   | refine LeO.ite ?_ ?_
   | refine LeO.bind ?_ (fun _ => ?_)
theorem spec_ReadBack.mono : ∀ a0 a1 a2 a3 a4 k, LeO (spec_ReadBack.f k a0 a1 a2 a3 a4) (spec_ReadBack.f (k + 1) a0 a1 a2 a3 a4) := by
 intro a0 a1 a2 a3 a4 k
 obtain ⟨ih0, ih1⟩ := spec_ReadBack.mono_l k
 unfold spec_ReadBack.f
 repeat' first
   | (with_reducible exact ih0 _ _ _ _ _ _)
   | (with_reducible exact ih1 _ _ _ _ _ _)
   | (with_reducible exact spec_l3Correct.mono _ _ _ _ _ _)
   | (with_reducible exact LeO.refl _)
   | (with_reducible exact LeO.none _)
   | (with_reducible refine LeO.ite ?_ ?_)
   | (with_reducible refine LeO.bind ?_ (fun _ => ?_))
   | exact ih0 _ _ _ _ _ _
   | exact ih1 _ _ _ _ _ _
   | exact spec_l3Correct.mono _ _ _ _ _ _
   | exact LeO.none _
   | refine LeO.ite ?_ ?_
   | refine LeO.bind ?_ (fun _ => ?_)
set_option maxHeartbeats 8000000 in
set_option maxRecDepth 100000 in
theorem spec_ReadBack.calls (k : Nat) (a0_0 : Int) (a0_1 : Int) (a0_2 : Int) (a0_3 : Int) (a1 : Int) (r1 : Int) (r2 : Bool) (w : World) (h : spec_ReadBack.f k a0_0 a0_1 a0_2 a0_3 a1 = some (r1, r2)) :
  Calls Try.prog 75 #[.agg #[.int .i64 a0_0, .int .i64 a0_1, .int .i64 a0_2, .int .i64 a0_3], .int .i64 a1] w fun e w' => e = .returned (.tuple #[.int .i64 r1, .bool r2]) ∧ Below w.heap.size w w' := by
 have hu44 := Try.underlying44
 have HB := Aside0.mk (Below.refl w.heap.size w)
 have H : ((spec_l3One.f a0_0 a0_1 a0_2 a0_3).bind fun t405 => (if t405 = true then ((spec_l3Reading.f a0_1 a1).bind fun t406 => (spec_ReadBack.j0 k a1 (!t406) a0_0 a0_1 a0_2 a0_3)) else (spec_ReadBack.j0 k a1 true a0_0 a0_1 a0_2 a0_3))) = some (r1, r2) := h
 clear h; have HC3 := Aside0.mk H; clear H
 go_enter Try.func75, Try.ntmps75
 go_upto_region 1 with (first | ((with_reducible refine gate_dst (N := 2) rfl ?_); refine box_event ?hg (N := 2) ?hd (cs := #[.int .i64 a0_0, .int .i64 a0_1, .int .i64 a0_2, .int .i64 a0_3]) (t := 44) ?hr ?_; (case hd => rfl); (case hg => rfl); (case hr => first | (go_simp; done) | (go_simp; rfl)); intro gb404 hg w4 hbox hb; have n0_ := Aside0.mk (below_step bx_ hb); have n1_ := Aside0.mk (hbox); have n2_ := Aside0.mk ((by rw [hg]; exact (below_size bx_) : w.heap.size ≤ gb404)); have n3_ := Aside0.mk ((by rw [hg]; exact (below_size bx_) : w.heap.size ≤ gb404)); clear HB; have HB := n0_; have BK404 := n1_; have GW404 := n2_; have GE404 := n3_; clear n0_ n1_ n2_ n3_; clear hb hbox hg))
 (try simp only [Act.put, zA, zB, zC])
 go_cut [16] (fun v16 wc => ∃ (kq : Nat) (x16_2 : Bool), v16 = .bool x16_2 ∧ Aside0 (spec_ReadBack.j0 kq a1 x16_2 a0_0 a0_1 a0_2 a0_3 = some (r1, r2)) ∧ Aside0 (kq ≤ k) ∧ Aside0 (wc.heap[gb404]? = some (.cells #[.int .i64 a0_0, .int .i64 a0_1, .int .i64 a0_2, .int .i64 a0_3] 44 (0, 0))) ∧ Aside0 (Below w.heap.size w wc))
 case first =>
  have H := HC3.out; clear HC3; replace H := Option.bind_eq_some_iff.mp H; obtain ⟨t405, A50, H⟩ := H
  replace H : (if t405 = true then ((spec_l3Reading.f a0_1 a1).bind fun t406 => (spec_ReadBack.j0 k a1 (!t406) a0_0 a0_1 a0_2 a0_3)) else (spec_ReadBack.j0 k a1 true a0_0 a0_1 a0_2 a0_3)) = some (r1, r2) := H
  have A5 := Aside0.mk A50; clear A50
  by_cases c6 : t405 = true
  ·subst c6
   have H1 : ((spec_l3Reading.f a0_1 a1).bind fun t406 => (spec_ReadBack.j0 k a1 (!t406) a0_0 a0_1 a0_2 a0_3)) = some (r1, r2) := by rw [if_pos rfl] at H; exact H
   clear H; have H := H1; clear H1; replace H := Option.bind_eq_some_iff.mp H; obtain ⟨t406, A70, H⟩ := H
   replace H : (spec_ReadBack.j0 k a1 (!t406) a0_0 a0_1 a0_2 a0_3) = some (r1, r2) := H
   have A7 := Aside0.mk A70; clear A70
   have H' := Aside0.mk H
   clear H
   have z8_0 : w4.cell? ⟨gb404, 0, none⟩ = some (.int .i64 a0_0) := (blk_cell BK404.out 0).trans rfl
   have z8_1 : w4.cell? ⟨gb404, 1, none⟩ = some (.int .i64 a0_1) := (blk_cell BK404.out 1).trans rfl
   have z8_2 : w4.cell? ⟨gb404, 2, none⟩ = some (.int .i64 a0_2) := (blk_cell BK404.out 2).trans rfl
   have z8_3 : w4.cell? ⟨gb404, 3, none⟩ = some (.int .i64 a0_3) := (blk_cell BK404.out 3).trans rfl
   have y8_0 := blk_frozen BK404.out 0; have y8_1 := blk_frozen BK404.out 1; have y8_2 := blk_frozen BK404.out 2; have y8_3 := blk_frozen BK404.out 3
   go_wp2_with (first | ((with_reducible refine gate_callee (f := 108) rfl ?_); refine goesL_ (some 8) rfl rfl Try.func108 (by kernel_rfl) rfl #[.agg #[.int .i64 a0_0, .int .i64 a0_1, .int .i64 a0_2, .int .i64 a0_3]] rfl gl_ ?_; (with_reducible refine (spec_l3One.calls a0_0 a0_1 a0_2 a0_3 true _ A5.out).mono ?_); rintro e w9 ⟨rfl, hb⟩; refine ⟨_, rfl, ?_⟩; have n0_ := Aside0.mk (blk_below (bk_ BK404) hb); have n1_ := Aside0.mk (below_step bx_ hb); clear BK404; clear HB; have BK404 := n0_; have HB := n1_; clear n0_ n1_; (try clear hb); have z10_0 : w9.cell? ⟨gb404, 0, none⟩ = some (.int .i64 a0_0) := (blk_cell BK404.out 0).trans rfl; have z10_1 : w9.cell? ⟨gb404, 1, none⟩ = some (.int .i64 a0_1) := (blk_cell BK404.out 1).trans rfl; have z10_2 : w9.cell? ⟨gb404, 2, none⟩ = some (.int .i64 a0_2) := (blk_cell BK404.out 2).trans rfl; have z10_3 : w9.cell? ⟨gb404, 3, none⟩ = some (.int .i64 a0_3) := (blk_cell BK404.out 3).trans rfl; have y10_0 := blk_frozen BK404.out 0; have y10_1 := blk_frozen BK404.out 1; have y10_2 := blk_frozen BK404.out 2; have y10_3 := blk_frozen BK404.out 3) | (go_at_call 109; (with_reducible refine (spec_l3Reading.calls a0_1 a1 t406 _ A7.out).mono ?_); rintro e w' ⟨rfl, ⟨nd, rfl⟩⟩))
   go_meet
   case rel => exact ⟨_, (!t406), (by first | rfl | (simp; done) | (simp [*]; done)), H', ⟨by first | omega | exact Nat.le_refl _⟩, ⟨by (with_reducible repeat (first | refine blk_drewN ?_ _ | refine blk_drew ?_ | refine blk_alloc ?_ _)); exact BK404.out⟩, ⟨by repeat (first | (with_reducible first | exact HB.out | apply below_alloc | apply pw_below_drewN | apply below_drew1 | refine below_set ?_ GE404.out) | exact HB.out)⟩⟩
  ·replace c6 := Bool.eq_false_iff.mpr c6
   subst c6
   have H1 : (spec_ReadBack.j0 k a1 true a0_0 a0_1 a0_2 a0_3) = some (r1, r2) := by rw [if_neg (show ¬ (false = true) by decide)] at H; exact H
   clear H; have H := H1; clear H1
   have H' := Aside0.mk H
   clear H
   have z11_0 : w4.cell? ⟨gb404, 0, none⟩ = some (.int .i64 a0_0) := (blk_cell BK404.out 0).trans rfl
   have z11_1 : w4.cell? ⟨gb404, 1, none⟩ = some (.int .i64 a0_1) := (blk_cell BK404.out 1).trans rfl
   have z11_2 : w4.cell? ⟨gb404, 2, none⟩ = some (.int .i64 a0_2) := (blk_cell BK404.out 2).trans rfl
   have z11_3 : w4.cell? ⟨gb404, 3, none⟩ = some (.int .i64 a0_3) := (blk_cell BK404.out 3).trans rfl
   have y11_0 := blk_frozen BK404.out 0; have y11_1 := blk_frozen BK404.out 1; have y11_2 := blk_frozen BK404.out 2; have y11_3 := blk_frozen BK404.out 3
   go_wp2_with (first | ((with_reducible refine gate_callee (f := 108) rfl ?_); refine goesL_ (some 8) rfl rfl Try.func108 (by kernel_rfl) rfl #[.agg #[.int .i64 a0_0, .int .i64 a0_1, .int .i64 a0_2, .int .i64 a0_3]] rfl gl_ ?_; (with_reducible refine (spec_l3One.calls a0_0 a0_1 a0_2 a0_3 false _ A5.out).mono ?_); rintro e w12 ⟨rfl, hb⟩; refine ⟨_, rfl, ?_⟩; have n0_ := Aside0.mk (blk_below (bk_ BK404) hb); have n1_ := Aside0.mk (below_step bx_ hb); clear BK404; clear HB; have BK404 := n0_; have HB := n1_; clear n0_ n1_; (try clear hb)))
   go_meet
   case rel => exact ⟨_, (true), (by first | rfl | (simp; done) | (simp [*]; done)), H', ⟨by first | omega | exact Nat.le_refl _⟩, ⟨by (with_reducible repeat (first | refine blk_drewN ?_ _ | refine blk_drew ?_ | refine blk_alloc ?_ _)); exact BK404.out⟩, ⟨by repeat (first | (with_reducible first | exact HB.out | apply below_alloc | apply pw_below_drewN | apply below_drew1 | refine below_set ?_ GE404.out) | exact HB.out)⟩⟩
 case rest =>
  clear HC3; (try clear c6); (try clear z10_0); (try clear z10_1); (try clear z10_2); (try clear z10_3); (try clear z11_0); (try clear z11_1); (try clear z11_2); (try clear z11_3); (try clear z8_0); (try clear z8_1); (try clear z8_2); (try clear z8_3); (try clear y10_0); (try clear y10_1); (try clear y10_2); (try clear y10_3); (try clear y11_0); (try clear y11_1); (try clear y11_2); (try clear y11_3); (try clear y8_0); (try clear y8_1); (try clear y8_2); (try clear y8_3); obtain ⟨kq, x16_2, rfl, HA, HJ2, BK404, HB⟩ := hcut
  cases kq with
  | zero => exact absurd HA.out (by simp [spec_ReadBack.j0])
  | succ kj2 =>
   have H := HA.out; clear HA
   simp only [spec_ReadBack.j0] at H
   by_cases c13 : x16_2 = true
   ·subst c13
    have H1 : (some (0, false)) = some (r1, r2) := by rw [if_pos rfl] at H; exact H
    clear H; have H := H1; clear H1
    simp only [Option.some.injEq, Prod.mk.injEq] at H
    obtain ⟨rfl, rfl⟩ := H
    go_wp2
    go_ret2
    exact ⟨by first | rfl | (simp <;> rfl) | (simp [*] <;> rfl), by repeat (first | (with_reducible first | exact HB.out | apply below_alloc | apply pw_below_drewN | apply below_drew1 | refine below_set ?_ GE404.out) | exact HB.out)⟩
   ·replace c13 := Bool.eq_false_iff.mpr c13
    subst c13
    have H1 : (spec_ReadBack.l0 kj2 a1 (-90) a0_0 a0_1 a0_2 a0_3) = some (r1, r2) := by rw [if_neg (show ¬ (false = true) by decide)] at H; exact H
    clear H; have H := H1; clear H1
    have H' := Aside0.mk H
    clear H
    go_wp2
    go_loopg [6] kj2 (fun kq v6 w' => ∃ (x6_2 : Int), v6 = .int .i64 x6_2 ∧ Aside0 (spec_ReadBack.l0 kq a1 x6_2 a0_0 a0_1 a0_2 a0_3 = some (r1, r2)) ∧ Aside0 (kq ≤ kj2) ∧ Aside0 (w'.heap[gb404]? = some (.cells #[.int .i64 a0_0, .int .i64 a0_1, .int .i64 a0_2, .int .i64 a0_3] 44 (0, 0))) ∧ Aside0 (Below w.heap.size w w'))
    case atStart => exact ⟨((-90)), (by first | rfl | (simp; done) | (simp [*]; done)), H', ⟨Nat.le_refl _⟩, ⟨by (with_reducible repeat (first | refine blk_drewN ?_ _ | refine blk_drew ?_ | refine blk_alloc ?_ _)); exact BK404.out⟩, ⟨by repeat (first | (with_reducible first | exact HB.out | apply below_alloc | apply pw_below_drewN | apply below_drew1 | refine below_set ?_ GE404.out) | exact HB.out)⟩⟩
    case round =>
     clear H'
     (try clear c6); (try clear c13); (try clear z10_0); (try clear z10_1); (try clear z10_2); (try clear z10_3); (try clear z11_0); (try clear z11_1); (try clear z11_2); (try clear z11_3); (try clear z8_0); (try clear z8_1); (try clear z8_2); (try clear z8_3); (try clear y10_0); (try clear y10_1); (try clear y10_2); (try clear y10_3); (try clear y11_0); (try clear y11_1); (try clear y11_2); (try clear y11_3); (try clear y8_0); (try clear y8_1); (try clear y8_2); (try clear y8_3); obtain ⟨x6_2, rfl, HA, HK2, BK404, HB⟩ := hrel
     cases gk with
     | zero => exact absurd HA.out (by simp [spec_ReadBack.l0])
     | succ k2 =>
      have H := HA.out; clear HA
      simp only [spec_ReadBack.l0] at H
      by_cases c14 : x6_2 ≤ 1000
      ·rw [if_pos c14] at H
       have c14b0 : decide (x6_2 ≤ 1000) = true := decide_eq_true c14
       clear c14; replace H := Option.bind_eq_some_iff.mp H; obtain ⟨t407, A150, H⟩ := H
       replace H : (if t407 = true then ((spec_l3Correct.f k2 a0_0 a0_1 a0_2 a0_3 x6_2).bind fun t408 => (if t408 = a1 then (some (x6_2, true)) else (spec_ReadBack.l0 k2 a1 (wrap64 (x6_2 + 1)) a0_0 a0_1 a0_2 a0_3))) else (spec_ReadBack.l0 k2 a1 (wrap64 (x6_2 + 1)) a0_0 a0_1 a0_2 a0_3)) = some (r1, r2) := H
       have A15 := Aside0.mk A150; clear A150
       by_cases c16 : t407 = true
       ·subst c16
        have H1 : ((spec_l3Correct.f k2 a0_0 a0_1 a0_2 a0_3 x6_2).bind fun t408 => (if t408 = a1 then (some (x6_2, true)) else (spec_ReadBack.l0 k2 a1 (wrap64 (x6_2 + 1)) a0_0 a0_1 a0_2 a0_3))) = some (r1, r2) := by rw [if_pos rfl] at H; exact H
        clear H; have H := H1; clear H1; replace H := Option.bind_eq_some_iff.mp H; obtain ⟨t408, A170, H⟩ := H
        replace H : (if t408 = a1 then (some (x6_2, true)) else (spec_ReadBack.l0 k2 a1 (wrap64 (x6_2 + 1)) a0_0 a0_1 a0_2 a0_3)) = some (r1, r2) := H
        have A17 := Aside0.mk A170; clear A170
        by_cases c18 : t408 = a1
        ·rw [if_pos c18] at H
         have c18b0 : (t408 == a1) = true := beq_iff_eq.mpr c18
         have c18b1 : (t408 != a1) = false := bne_eq_false_iff_eq.mpr c18
         clear c18
         simp only [Option.some.injEq, Prod.mk.injEq] at H
         obtain ⟨rfl, rfl⟩ := H
         have z19_0 : wr.cell? ⟨gb404, 0, none⟩ = some (.int .i64 a0_0) := (blk_cell BK404.out 0).trans rfl
         have z19_1 : wr.cell? ⟨gb404, 1, none⟩ = some (.int .i64 a0_1) := (blk_cell BK404.out 1).trans rfl
         have z19_2 : wr.cell? ⟨gb404, 2, none⟩ = some (.int .i64 a0_2) := (blk_cell BK404.out 2).trans rfl
         have z19_3 : wr.cell? ⟨gb404, 3, none⟩ = some (.int .i64 a0_3) := (blk_cell BK404.out 3).trans rfl
         have y19_0 := blk_frozen BK404.out 0; have y19_1 := blk_frozen BK404.out 1; have y19_2 := blk_frozen BK404.out 2; have y19_3 := blk_frozen BK404.out 3
         go_wp2_with (first | ((with_reducible refine gate_callee (f := 109) rfl ?_); refine goesL_ (some 24) rfl rfl Try.func109 (by kernel_rfl) rfl #[.int .i64 a0_1, .int .i64 x6_2] rfl gl_ ?_; (with_reducible refine (spec_l3Reading.calls a0_1 x6_2 true _ A15.out).mono ?_); rintro e w' ⟨rfl, ⟨nd, rfl⟩⟩; refine ⟨_, rfl, ?_⟩) | (go_at_call 110; (with_reducible refine (spec_l3Correct.calls k2 a0_0 a0_1 a0_2 a0_3 x6_2 t408 _ A17.out).mono ?_); rintro e w20 ⟨rfl, hb⟩; have n0_ := Aside0.mk (blk_below (bk_ BK404) hb); have n1_ := Aside0.mk (below_step bx_ hb); clear BK404; clear HB; have BK404 := n0_; have HB := n1_; clear n0_ n1_; (try clear hb)))
         go_ret2
         exact ⟨by first | rfl | (simp <;> rfl) | (simp [*] <;> rfl), by repeat (first | (with_reducible first | exact HB.out | apply below_alloc | apply pw_below_drewN | apply below_drew1 | refine below_set ?_ GE404.out) | exact HB.out)⟩
        ·rw [if_neg c18] at H
         have c18b0 : (t408 == a1) = false := beq_eq_false_iff_ne.mpr c18
         have c18b1 : (t408 != a1) = true := bne_iff_ne.mpr c18
         have H' := Aside0.mk H
         clear H
         have z21_0 : wr.cell? ⟨gb404, 0, none⟩ = some (.int .i64 a0_0) := (blk_cell BK404.out 0).trans rfl
         have z21_1 : wr.cell? ⟨gb404, 1, none⟩ = some (.int .i64 a0_1) := (blk_cell BK404.out 1).trans rfl
         have z21_2 : wr.cell? ⟨gb404, 2, none⟩ = some (.int .i64 a0_2) := (blk_cell BK404.out 2).trans rfl
         have z21_3 : wr.cell? ⟨gb404, 3, none⟩ = some (.int .i64 a0_3) := (blk_cell BK404.out 3).trans rfl
         have y21_0 := blk_frozen BK404.out 0; have y21_1 := blk_frozen BK404.out 1; have y21_2 := blk_frozen BK404.out 2; have y21_3 := blk_frozen BK404.out 3
         go_wp2_with (first | ((with_reducible refine gate_callee (f := 109) rfl ?_); refine goesL_ (some 24) rfl rfl Try.func109 (by kernel_rfl) rfl #[.int .i64 a0_1, .int .i64 x6_2] rfl gl_ ?_; (with_reducible refine (spec_l3Reading.calls a0_1 x6_2 true _ A15.out).mono ?_); rintro e w' ⟨rfl, ⟨nd, rfl⟩⟩; refine ⟨_, rfl, ?_⟩) | (go_at_call 110; (with_reducible refine (spec_l3Correct.calls k2 a0_0 a0_1 a0_2 a0_3 x6_2 t408 _ A17.out).mono ?_); rintro e w22 ⟨rfl, hb⟩; have n0_ := Aside0.mk (blk_below (bk_ BK404) hb); have n1_ := Aside0.mk (below_step bx_ hb); clear BK404; clear HB; have BK404 := n0_; have HB := n1_; clear n0_ n1_; (try clear hb)))
         go_roundg k2
         case measure => have := HJ2.out; have := HK2.out; omega
         case rel => exact ⟨(wrap64 (x6_2 + 1)), (by first | rfl | (simp; done) | (simp [*]; done)), H', ⟨by have := HJ2.out; have := HK2.out; omega⟩, ⟨by (with_reducible repeat (first | refine blk_drewN ?_ _ | refine blk_drew ?_ | refine blk_alloc ?_ _)); exact BK404.out⟩, ⟨by repeat (first | (with_reducible first | exact HB.out | apply below_alloc | apply pw_below_drewN | apply below_drew1 | refine below_set ?_ GE404.out) | exact HB.out)⟩⟩
       ·replace c16 := Bool.eq_false_iff.mpr c16
        subst c16
        have H1 : (spec_ReadBack.l0 k2 a1 (wrap64 (x6_2 + 1)) a0_0 a0_1 a0_2 a0_3) = some (r1, r2) := by rw [if_neg (show ¬ (false = true) by decide)] at H; exact H
        clear H; have H := H1; clear H1
        have H' := Aside0.mk H
        clear H
        have z23_0 : wr.cell? ⟨gb404, 0, none⟩ = some (.int .i64 a0_0) := (blk_cell BK404.out 0).trans rfl
        have z23_1 : wr.cell? ⟨gb404, 1, none⟩ = some (.int .i64 a0_1) := (blk_cell BK404.out 1).trans rfl
        have z23_2 : wr.cell? ⟨gb404, 2, none⟩ = some (.int .i64 a0_2) := (blk_cell BK404.out 2).trans rfl
        have z23_3 : wr.cell? ⟨gb404, 3, none⟩ = some (.int .i64 a0_3) := (blk_cell BK404.out 3).trans rfl
        have y23_0 := blk_frozen BK404.out 0; have y23_1 := blk_frozen BK404.out 1; have y23_2 := blk_frozen BK404.out 2; have y23_3 := blk_frozen BK404.out 3
        go_wp2_with (first | ((with_reducible refine gate_callee (f := 109) rfl ?_); refine goesL_ (some 24) rfl rfl Try.func109 (by kernel_rfl) rfl #[.int .i64 a0_1, .int .i64 x6_2] rfl gl_ ?_; (with_reducible refine (spec_l3Reading.calls a0_1 x6_2 false _ A15.out).mono ?_); rintro e w' ⟨rfl, ⟨nd, rfl⟩⟩; refine ⟨_, rfl, ?_⟩))
        go_roundg k2
        case measure => have := HJ2.out; have := HK2.out; omega
        case rel => exact ⟨(wrap64 (x6_2 + 1)), (by first | rfl | (simp; done) | (simp [*]; done)), H', ⟨by have := HJ2.out; have := HK2.out; omega⟩, ⟨by (with_reducible repeat (first | refine blk_drewN ?_ _ | refine blk_drew ?_ | refine blk_alloc ?_ _)); exact BK404.out⟩, ⟨by repeat (first | (with_reducible first | exact HB.out | apply below_alloc | apply pw_below_drewN | apply below_drew1 | refine below_set ?_ GE404.out) | exact HB.out)⟩⟩
      ·rw [if_neg c14] at H
       have c14b0 : decide (x6_2 ≤ 1000) = false := decide_eq_false c14
       clear c14
       simp only [Option.some.injEq, Prod.mk.injEq] at H
       obtain ⟨rfl, rfl⟩ := H
       go_wp2
       go_ret2
       exact ⟨by first | rfl | (simp <;> rfl) | (simp [*] <;> rfl), by repeat (first | (with_reducible first | exact HB.out | apply below_alloc | apply pw_below_drewN | apply below_drew1 | refine below_set ?_ GE404.out) | exact HB.out)⟩

/-! ### spec_AreTools: function 76 -/
def spec_AreTools.f (k : Nat) (l0 : List (S44)) : Option (Bool) := (spec_l3Good.f k l0).bind fun t409 => (some t409)
theorem spec_AreTools.mono : ∀ a0 k, LeO (spec_AreTools.f k a0) (spec_AreTools.f (k + 1) a0) := by
 intro a0 k
 unfold spec_AreTools.f
 repeat' first
   | (with_reducible exact spec_l3Good.mono _ _)
   | (with_reducible exact LeO.refl _)
   | (with_reducible exact LeO.none _)
   | (with_reducible refine LeO.ite ?_ ?_)
   | (with_reducible refine LeO.bind ?_ (fun _ => ?_))
   | exact spec_l3Good.mono _ _
   | exact LeO.none _
   | refine LeO.ite ?_ ?_
   | refine LeO.bind ?_ (fun _ => ?_)
set_option maxHeartbeats 8000000 in
set_option maxRecDepth 100000 in
theorem spec_AreTools.calls (k : Nat) (A0 : Option Addr) (c0 : Nat) (l0 : List (S44)) (r : Bool) (w : World) (hr0 : Kd.C k44 w A0 l0.length l0) (hc0 : l0.length ≤ c0) (h : spec_AreTools.f k l0 = some r) :
  Calls Try.prog 76 #[.slice A0 l0.length c0] w fun e w' => e = .returned (.bool r) ∧ Below w.heap.size w w' := by
 have HR0 := Aside0.mk hr0; have HC0 := Aside0.mk hc0; clear hr0 hc0
 have HB := Aside0.mk (Below.refl w.heap.size w)
 have H : ((spec_l3Good.f k l0).bind fun t409 => (some t409)) = some r := h
 clear h; replace H := Option.bind_eq_some_iff.mp H; obtain ⟨t409, A20, H⟩ := H
 replace H : (some t409) = some r := H
 have A2 := Aside0.mk A20; clear A20
 obtain rfl := Option.some.inj H
 go_enter Try.func76, Try.ntmps76
 go_wp2_with (first | ((with_reducible refine gate_callee (f := 88) rfl ?_); refine goesL_ (some 4) rfl rfl Try.func88 (by kernel_rfl) rfl #[.slice A0 l0.length c0] rfl gl_ ?_; (with_reducible refine (spec_l3Good.calls k _ _ l0 t409 _ ?side1 ?side2 A2.out).mono ?_); (case side1 => repeat (first | exact HR0.out | (with_reducible refine Kd.C_alloc ?_ _) | (with_reducible refine Kd.C_drewN ?_ _) | (with_reducible refine Kd.C_drew ?_))); (case side2 => exact HC0.out); rintro e w3 ⟨rfl, hb⟩; refine ⟨_, rfl, ?_⟩; have n0_ := Aside0.mk (below_step bx_ hb); clear HB; have HB := n0_; clear n0_; (try clear hb)))
 go_ret
 exact ⟨by first | rfl | (simp <;> rfl) | (simp [*] <;> rfl), by repeat (first | (with_reducible first | exact HB.out | apply below_alloc | apply pw_below_drewN | apply below_drew1) | exact HB.out)⟩

end Go.Proofs.Ytpfmhoikhnhdcaa.XFnToolKinds
