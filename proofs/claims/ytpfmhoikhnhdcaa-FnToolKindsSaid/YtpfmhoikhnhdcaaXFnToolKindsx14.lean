/- Contracts of the functions that the law FnToolKinds comes to: each is told as a plain function of its arguments, and the machine's call does what that function says; no condition. Written by programs (print.py, xprint.py); Lean checks it. -/
import Derived.Test.YtpfmhoikhnhdcaaXFnToolKindsx0
import Derived.Test.YtpfmhoikhnhdcaaXFnToolKindsx11
import Derived.Test.YtpfmhoikhnhdcaaXFnToolKindsx12
import Derived.Test.YtpfmhoikhnhdcaaXFnToolKindsx13
namespace Go.Proofs.Ytpfmhoikhnhdcaa.XFnToolKinds
open Go.RowKit Go.Proofs.YtpfmhoikhnhdcaaW.PrintWords Go.Proofs.YtpfmhoikhnhdcaaW.PrintLast Go.Proofs.YtpfmhoikhnhdcaaW.PrintMore
open List renaming setIfInBounds_toArray → zA, set_cons_zero → zB, set_cons_succ → zC
attribute [local go_sem] max2_int min2_int max_two min_two max_three min_three max_four min_four   -- for this text's walks alone
set_option linter.unusedVariables false
set_option linter.unusedSimpArgs false

/-! ### spec_DrawWorstCheck_in: function 113 -/
def spec_DrawWorstCheck_in.f (k : Nat) (s0_0 : List Int) (s0_1 : Int) (s0_2 : Int) : Option (Int × Int × Int × Int × (List (S46)) × Int × Int) := (spec_l1Cur_tool.f k s0_0 s0_1 s0_2 1).bind fun bt335 => ((spec_l1Cur_checks.f k s0_0 bt335.2.2.2.2.1 bt335.2.2.2.2.2 bt335.1 bt335.2.1 bt335.2.2.1 bt335.2.2.2.1).bind fun bt342 => (some (bt335.1, bt335.2.1, bt335.2.2.1, bt335.2.2.2.1, bt342.1, bt342.2.1, bt342.2.2)))
theorem spec_DrawWorstCheck_in.mono : ∀ a0 a1 a2 k, LeO (spec_DrawWorstCheck_in.f k a0 a1 a2) (spec_DrawWorstCheck_in.f (k + 1) a0 a1 a2) := by
 intro a0 a1 a2 k
 unfold spec_DrawWorstCheck_in.f
 repeat' first
   | (with_reducible exact spec_l1Cur_checks.mono _ _ _ _ _ _ _ _)
   | (with_reducible exact spec_l1Cur_tool.mono _ _ _ _ _)
   | (with_reducible exact LeO.refl _)
   | (with_reducible exact LeO.none _)
   | (with_reducible refine LeO.ite ?_ ?_)
   | (with_reducible refine LeO.bind ?_ (fun _ => ?_))
   | exact spec_l1Cur_checks.mono _ _ _ _ _ _ _ _
   | exact spec_l1Cur_tool.mono _ _ _ _ _
   | exact LeO.none _
   | refine LeO.ite ?_ ?_
   | refine LeO.bind ?_ (fun _ => ?_)
set_option maxHeartbeats 8000000 in
set_option maxRecDepth 100000 in
theorem spec_DrawWorstCheck_in.calls (k : Nat) (A0 : Option Addr) (c0 : Nat) (l0 : List Int) (r1 : Int) (r2 : Int) (r3 : Int) (r4 : Int) (r5 : List (S46)) (r6 : Int) (r7 : Int) (w : World) (hr0 : Kd.C (Kd.int .u8) w A0 l0.length l0) (hc0 : l0.length ≤ c0) (h : spec_DrawWorstCheck_in.f k l0 0 0 = some (r1, r2, r3, r4, r5, r6, r7)) :
  Calls Try.prog 113 #[.slice A0 l0.length c0] w fun e w' => ∃ v4_ : Value, e = .returned (.tuple #[.agg #[.int .i64 r1, .int .i64 r2, .int .i64 r3, .int .i64 r4], v4_]) ∧ Kd.R k46 46 w' w.heap.size (fun _ => True) v4_ r5 ∧ ∃ gst : Nat, IsS101 w w' gst l0 r6 r7 ∧ Below w.heap.size w w' ∧ KeepBut w w' gst none := by
 have hu44 := Try.underlying44
 have HB := Aside0.mk (Below.refl w.heap.size w)
 have H : ((spec_l1Cur_tool.f k l0 0 0 1).bind fun bt335 => ((spec_l1Cur_checks.f k l0 bt335.2.2.2.2.1 bt335.2.2.2.2.2 bt335.1 bt335.2.1 bt335.2.2.1 bt335.2.2.2.1).bind fun bt342 => (some (bt335.1, bt335.2.1, bt335.2.2.1, bt335.2.2.2.1, bt342.1, bt342.2.1, bt342.2.2)))) = some (r1, r2, r3, r4, r5, r6, r7) := h
 clear h; replace H := Option.bind_eq_some_iff.mp H; obtain ⟨⟨t335, t336, t337, t338, t339, t340⟩, A20, H⟩ := H
 replace H : ((spec_l1Cur_checks.f k l0 t339 t340 t335 t336 t337 t338).bind fun bt342 => (some (t335, t336, t337, t338, bt342.1, bt342.2.1, bt342.2.2))) = some (r1, r2, r3, r4, r5, r6, r7) := H
 have A2 := Aside0.mk A20; clear A20; replace H := Option.bind_eq_some_iff.mp H; obtain ⟨⟨t342, t345, t346⟩, A30, H⟩ := H
 replace H : (some (t335, t336, t337, t338, t342, t345, t346)) = some (r1, r2, r3, r4, r5, r6, r7) := H
 have A3 := Aside0.mk A30; clear A30
 simp only [Option.some.injEq, Prod.mk.injEq] at H
 obtain ⟨rfl, rfl, rfl, rfl, rfl, rfl, rfl⟩ := H
 go_enter Try.func113, Try.ntmps113
 go_upto_region 2 with (first | ((with_reducible refine gate_dst (N := 2) rfl ?_); refine box_event ?hg (N := 2) ?hd (cs := #[.int .i64 0, .int .i64 0, .int .i64 0, .int .i64 0]) (t := 44) ?hr ?_; (case hd => rfl); (case hg => rfl); (case hr => first | (go_simp; done) | (go_simp; rfl)); intro gb334 hg wE0 hbox hb; have GE334 := Aside0.mk (show w.heap.size ≤ gb334 from (by rw [hg]; exact below_size HB.out)); have GW334 := GE334; have n1_ := Aside0.mk (below_step HB.out hb); clear HB; have HB := n1_; clear n1_; have BK334 := Aside0.mk hbox; clear hb hbox hg))
 generalize hgst : wE0.heap.size = gst
 have HI0 : Aside0 (IsS101 w (wE0.alloc (.cells #[.slice A0 l0.length c0, .int .i64 0, .int .u64 0] 101)) gst l0 0 0) := ⟨⟨A0, c0, by rw [← hgst]; exact heap_alloc_new wE0 _, by rw [← hgst]; exact below_size HB.out, hr0⟩⟩
 have NB0_334 : Aside0 (gst ≠ gb334) := ⟨by rw [← hgst]; exact Nat.ne_of_gt (blk_lt BK334.out)⟩
 have NB334_0 : Aside0 (gb334 ≠ gst) := ⟨by rw [← hgst]; exact Nat.ne_of_lt (blk_lt BK334.out)⟩
 have m1_ := Aside0.mk (blk_alloc BK334.out (.cells #[.slice A0 l0.length c0, .int .i64 0, .int .u64 0] 101))
 clear BK334; have BK334 := m1_; clear m1_
 have n1_ := Aside0.mk (below_alloc HB.out (.cells #[.slice A0 l0.length c0, .int .i64 0, .int .u64 0] 101))
 clear HB; have HB := n1_; clear n1_
 have HK := Aside0.mk (KeepBut.of_below HB.out gst none)
 have HL := Aside0.mk (Nat.le_refl w.heap.size)
 have HW0 := Aside0.mk (Nat.le_refl w.heap.size)
 clear hr0 hgst
 generalize (wE0.alloc (.cells #[.slice A0 l0.length c0, .int .i64 0, .int .u64 0] 101)) = wS_ at HI0 HB HK BK334 ⊢
 try go_wp2_with (first | ((with_reducible refine gate_dst (N := 2) rfl ?_); refine box_event ?hg (N := 2) ?hd (cs := #[.int .i64 0, .int .i64 0, .int .i64 0, .int .i64 0]) (t := 44) ?hr ?_; (case hd => rfl); (case hg => rfl); (case hr => first | (go_simp; done) | (go_simp; rfl)); intro gb334 hg w4 hbox hb; have n0_ := Aside0.mk (IsS101.below (by repeat (first | (with_reducible first | exact HI0.out | apply IsS101.alloc | apply IsS101.drewN | apply IsS101.drew | apply IsS101.set_1 | apply IsS101.set_2) | exact HI0.out)) hb); have n1_ := Aside0.mk (KeepBut.trans (by repeat (first | (with_reducible first | exact HK.out | apply KeepBut.set_ | apply keep_drewN | apply keep_drew | apply keep_alloc) | exact HK.out)) (KeepBut.of_below hb gst none) (.inl rfl)); have n2_ := Aside0.mk (below_step (by repeat (first | (with_reducible first | exact HB.out | apply below_alloc | apply pw_below_drewN | apply below_drew1 | refine below_set ?_ (IsS101.ge HI0.out)) | exact HB.out)) hb); have n3_ := Aside0.mk (hbox); have n4_ := Aside0.mk ((by rw [hg]; exact (keep_size (w := w) (g := gst) (row := none) (by repeat (first | (with_reducible first | exact HK.out | apply KeepBut.set_ | apply keep_drewN | apply keep_drew | apply keep_alloc) | exact HK.out))) : w.heap.size ≤ gb334)); have n5_ := Aside0.mk ((Nat.le_trans HW0.out (by rw [hg]; exact (keep_size (w := w) (g := gst) (row := none) (by repeat (first | (with_reducible first | exact HK.out | apply KeepBut.set_ | apply keep_drewN | apply keep_drew | apply keep_alloc) | exact HK.out))) : w.heap.size ≤ gb334) : w.heap.size ≤ gb334)); have n6_ := Aside0.mk ((by rw [hg]; exact Nat.ne_of_lt (IsS101.lt (show IsS101 w _ gst l0 0 0 from by repeat (first | (with_reducible first | exact HI0.out | apply IsS101.alloc | apply IsS101.drewN | apply IsS101.drew | apply IsS101.set_1 | apply IsS101.set_2) | exact HI0.out))) : gst ≠ gb334)); have n7_ := Aside0.mk ((by rw [hg]; exact Nat.ne_of_gt (IsS101.lt (show IsS101 w _ gst l0 0 0 from by repeat (first | (with_reducible first | exact HI0.out | apply IsS101.alloc | apply IsS101.drewN | apply IsS101.drew | apply IsS101.set_1 | apply IsS101.set_2) | exact HI0.out))) : gb334 ≠ gst)); clear HI0; clear HK; clear HB; have HI0 := n0_; have HK := n1_; have HB := n2_; have BK334 := n3_; have GW334 := n4_; have GE334 := n5_; have NB0_334 := n6_; have NB334_0 := n7_; clear n0_ n1_ n2_ n3_ n4_ n5_ n6_ n7_; clear hb hbox hg) | ((with_reducible refine gate_callee (f := 105) rfl ?_); refine goesL_ (some 10) rfl rfl Try.func105 (by kernel_rfl) rfl #[.pointer (some ⟨gst, 0, none⟩), .int .i64 1] rfl gl_ ?_; (with_reducible refine (spec_l1Cur_tool.calls k gst l0 0 0 1 t335 t336 t337 t338 t339 t340 w _ ?side1 ?side2 A2.out).mono ?_); (case side1 => repeat (first | (with_reducible first | exact HI0.out | apply IsS101.alloc | apply IsS101.drewN | apply IsS101.drew | apply IsS101.set_1 | apply IsS101.set_2 | refine IsS101.far ?_ NB0_334.out _) | exact HI0.out)); (case side2 => repeat (first | (with_reducible first | exact HB.out | apply below_alloc | apply pw_below_drewN | apply below_drew1 | refine below_set ?_ (IsS101.ge HI0.out) | refine below_set ?_ GE334.out) | exact HB.out)); rintro e w5 ⟨rfl, hi, hb, hk⟩; refine ⟨_, rfl, ?_⟩; have n0_ := Aside0.mk (KeepBut.blk hk (g' := gb334) (o := .cells #[.int .i64 0, .int .i64 0, .int .i64 0, .int .i64 0] 44 (0, 0)) (by (with_reducible repeat (first | refine blk_drewN ?_ _ | refine blk_drew ?_ | refine blk_alloc ?_ _)); exact BK334.out) NB334_0.out (by simp)); have n1_ := Aside0.mk (KeepBut.trans (by repeat (first | (with_reducible first | exact HK.out | apply KeepBut.set_ | apply keep_drewN | apply keep_drew | apply keep_alloc | refine keep_far ?_ GW334.out _) | exact HK.out)) hk (.inl rfl)); have n2_ := Aside0.mk (hb); have n3_ := Aside0.mk (hi); clear BK334; clear HK; clear HB; clear HI0; have BK334 := n0_; have HK := n1_; have HB := n2_; have HI0 := n3_; clear n0_ n1_ n2_ n3_; (try clear hb); (try clear hk); (try clear hi)) | ((with_reducible refine gate_dst (N := 5) rfl ?_); refine box_event ?hg (N := 5) ?hd (cs := #[.int .i64 0, .int .i64 0, .int .i64 0, .int .i64 0]) (t := 44) ?hr ?_; (case hd => rfl); (case hg => rfl); (case hr => first | (go_simp; done) | (go_simp; rfl)); intro gb341 hg w6 hbox hb; have n0_ := Aside0.mk (IsS101.below (by repeat (first | (with_reducible first | exact HI0.out | apply IsS101.alloc | apply IsS101.drewN | apply IsS101.drew | apply IsS101.set_1 | apply IsS101.set_2 | refine IsS101.far ?_ NB0_334.out _) | exact HI0.out)) hb); have n1_ := Aside0.mk (blk_below (bk_ BK334) hb); have n2_ := Aside0.mk (KeepBut.trans (by repeat (first | (with_reducible first | exact HK.out | apply KeepBut.set_ | apply keep_drewN | apply keep_drew | apply keep_alloc | refine keep_far ?_ GW334.out _) | exact HK.out)) (KeepBut.of_below hb gst none) (.inl rfl)); have n3_ := Aside0.mk (below_step (by repeat (first | (with_reducible first | exact HB.out | apply below_alloc | apply pw_below_drewN | apply below_drew1 | refine below_set ?_ (IsS101.ge HI0.out) | refine below_set ?_ GE334.out) | exact HB.out)) hb); have n4_ := Aside0.mk (hbox); have n5_ := Aside0.mk ((by rw [hg]; exact (keep_size (w := w) (g := gst) (row := none) (by repeat (first | (with_reducible first | exact HK.out | apply KeepBut.set_ | apply keep_drewN | apply keep_drew | apply keep_alloc | refine keep_far ?_ GW334.out _) | exact HK.out))) : w.heap.size ≤ gb341)); have n6_ := Aside0.mk ((Nat.le_trans HW0.out (by rw [hg]; exact (keep_size (w := w) (g := gst) (row := none) (by repeat (first | (with_reducible first | exact HK.out | apply KeepBut.set_ | apply keep_drewN | apply keep_drew | apply keep_alloc | refine keep_far ?_ GW334.out _) | exact HK.out))) : w.heap.size ≤ gb341) : w.heap.size ≤ gb341)); have n7_ := Aside0.mk ((by rw [hg]; exact Nat.ne_of_lt (blk_lt (g := gb334) (o := .cells #[.int .i64 0, .int .i64 0, .int .i64 0, .int .i64 0] 44 (0, 0)) (by (with_reducible repeat (first | refine blk_drewN ?_ _ | refine blk_drew ?_ | refine blk_alloc ?_ _)); exact BK334.out)) : gb334 ≠ gb341)); have n8_ := Aside0.mk ((by rw [hg]; exact Nat.ne_of_gt (blk_lt (g := gb334) (o := .cells #[.int .i64 0, .int .i64 0, .int .i64 0, .int .i64 0] 44 (0, 0)) (by (with_reducible repeat (first | refine blk_drewN ?_ _ | refine blk_drew ?_ | refine blk_alloc ?_ _)); exact BK334.out)) : gb341 ≠ gb334)); have n9_ := Aside0.mk ((by rw [hg]; exact Nat.ne_of_lt (IsS101.lt (show IsS101 w _ gst l0 t339 t340 from by repeat (first | (with_reducible first | exact HI0.out | apply IsS101.alloc | apply IsS101.drewN | apply IsS101.drew | apply IsS101.set_1 | apply IsS101.set_2 | refine IsS101.far ?_ NB0_334.out _) | exact HI0.out))) : gst ≠ gb341)); have n10_ := Aside0.mk ((by rw [hg]; exact Nat.ne_of_gt (IsS101.lt (show IsS101 w _ gst l0 t339 t340 from by repeat (first | (with_reducible first | exact HI0.out | apply IsS101.alloc | apply IsS101.drewN | apply IsS101.drew | apply IsS101.set_1 | apply IsS101.set_2 | refine IsS101.far ?_ NB0_334.out _) | exact HI0.out))) : gb341 ≠ gst)); clear HI0; clear BK334; clear HK; clear HB; have HI0 := n0_; have BK334 := n1_; have HK := n2_; have HB := n3_; have BK341 := n4_; have GW341 := n5_; have GE341 := n6_; have NB334_341 := n7_; have NB341_334 := n8_; have NB0_341 := n9_; have NB341_0 := n10_; clear n0_ n1_ n2_ n3_ n4_ n5_ n6_ n7_ n8_ n9_ n10_; clear hb hbox hg; have hnb7 := NB341_334.out; have hnc7 := NB334_341.out; have hnb8 := NB341_0.out; have hnc8 := NB0_341.out; have z9_0 : w6.cell? ⟨gb341, 0, none⟩ = some (.int .i64 0) := (blk_cell BK341.out 0).trans rfl; have z9_1 : w6.cell? ⟨gb341, 1, none⟩ = some (.int .i64 0) := (blk_cell BK341.out 1).trans rfl; have z9_2 : w6.cell? ⟨gb341, 2, none⟩ = some (.int .i64 0) := (blk_cell BK341.out 2).trans rfl; have z9_3 : w6.cell? ⟨gb341, 3, none⟩ = some (.int .i64 0) := (blk_cell BK341.out 3).trans rfl; have y9_0 := blk_frozen BK341.out 0; have y9_1 := blk_frozen BK341.out 1; have y9_2 := blk_frozen BK341.out 2; have y9_3 := blk_frozen BK341.out 3))
 have n0_ : Aside0 (((((w6.setCell ⟨gb341, 0, none⟩ (.int .i64 t335)).setCell ⟨gb341, 1, none⟩ (.int .i64 t336)).setCell ⟨gb341, 2, none⟩ (.int .i64 t337)).setCell ⟨gb341, 3, none⟩ (.int .i64 t338)).heap[gb334]? = some (.cells #[.int .i64 0, .int .i64 0, .int .i64 0, .int .i64 0] 44 (0, 0))) := ⟨by (with_reducible repeat (first | refine blk_drewN ?_ _ | refine blk_drew ?_ | refine blk_alloc ?_ _)); refine blk_far ?_ NB334_341.out _; (with_reducible repeat (first | refine blk_drewN ?_ _ | refine blk_drew ?_ | refine blk_alloc ?_ _)); refine blk_far ?_ NB334_341.out _; (with_reducible repeat (first | refine blk_drewN ?_ _ | refine blk_drew ?_ | refine blk_alloc ?_ _)); refine blk_far ?_ NB334_341.out _; (with_reducible repeat (first | refine blk_drewN ?_ _ | refine blk_drew ?_ | refine blk_alloc ?_ _)); refine blk_far ?_ NB334_341.out _; (with_reducible repeat (first | refine blk_drewN ?_ _ | refine blk_drew ?_ | refine blk_alloc ?_ _)); exact BK334.out⟩
 have n1_ : Aside0 (((((w6.setCell ⟨gb341, 0, none⟩ (.int .i64 t335)).setCell ⟨gb341, 1, none⟩ (.int .i64 t336)).setCell ⟨gb341, 2, none⟩ (.int .i64 t337)).setCell ⟨gb341, 3, none⟩ (.int .i64 t338)).heap[gb341]? = some (.cells #[.int .i64 t335, .int .i64 t336, .int .i64 t337, .int .i64 t338] 44 (0, 0))) := ⟨by (with_reducible repeat (first | refine blk_drewN ?_ _ | refine blk_drew ?_ | refine blk_alloc ?_ _)); refine blk_put (cs := #[.int .i64 t335, .int .i64 t336, .int .i64 t337, .int .i64 0]) ?_ 3 _ rfl; (with_reducible repeat (first | refine blk_drewN ?_ _ | refine blk_drew ?_ | refine blk_alloc ?_ _)); refine blk_put (cs := #[.int .i64 t335, .int .i64 t336, .int .i64 0, .int .i64 0]) ?_ 2 _ rfl; (with_reducible repeat (first | refine blk_drewN ?_ _ | refine blk_drew ?_ | refine blk_alloc ?_ _)); refine blk_put (cs := #[.int .i64 t335, .int .i64 0, .int .i64 0, .int .i64 0]) ?_ 1 _ rfl; (with_reducible repeat (first | refine blk_drewN ?_ _ | refine blk_drew ?_ | refine blk_alloc ?_ _)); refine blk_put (cs := #[.int .i64 0, .int .i64 0, .int .i64 0, .int .i64 0]) ?_ 0 _ rfl; (with_reducible repeat (first | refine blk_drewN ?_ _ | refine blk_drew ?_ | refine blk_alloc ?_ _)); exact BK341.out⟩
 have n2_ : Aside0 (IsS101 w ((((w6.setCell ⟨gb341, 0, none⟩ (.int .i64 t335)).setCell ⟨gb341, 1, none⟩ (.int .i64 t336)).setCell ⟨gb341, 2, none⟩ (.int .i64 t337)).setCell ⟨gb341, 3, none⟩ (.int .i64 t338)) gst l0 t339 t340) := ⟨by repeat (first | (with_reducible first | exact HI0.out | apply IsS101.alloc | apply IsS101.drewN | apply IsS101.drew | apply IsS101.set_1 | apply IsS101.set_2 | refine IsS101.far ?_ NB0_334.out _ | refine IsS101.far ?_ NB0_341.out _) | exact HI0.out)⟩
 have n3_ : Aside0 (KeepBut w ((((w6.setCell ⟨gb341, 0, none⟩ (.int .i64 t335)).setCell ⟨gb341, 1, none⟩ (.int .i64 t336)).setCell ⟨gb341, 2, none⟩ (.int .i64 t337)).setCell ⟨gb341, 3, none⟩ (.int .i64 t338)) gst none) := ⟨by repeat (first | (with_reducible first | exact HK.out | apply KeepBut.set_ | apply keep_drewN | apply keep_drew | apply keep_alloc | refine keep_far ?_ GW334.out _ | refine keep_far ?_ GW341.out _) | exact HK.out)⟩
 have n4_ : Aside0 (Below w.heap.size w ((((w6.setCell ⟨gb341, 0, none⟩ (.int .i64 t335)).setCell ⟨gb341, 1, none⟩ (.int .i64 t336)).setCell ⟨gb341, 2, none⟩ (.int .i64 t337)).setCell ⟨gb341, 3, none⟩ (.int .i64 t338))) := ⟨by repeat (first | (with_reducible first | exact HB.out | apply below_alloc | apply pw_below_drewN | apply below_drew1 | refine below_set ?_ (IsS101.ge HI0.out) | refine below_set ?_ GE334.out | refine below_set ?_ GE341.out) | exact HB.out)⟩
 (try clear BK334); (try clear BK341); (try clear HI0); (try clear HK); (try clear HB)
 generalize ((((w6.setCell ⟨gb341, 0, none⟩ (.int .i64 t335)).setCell ⟨gb341, 1, none⟩ (.int .i64 t336)).setCell ⟨gb341, 2, none⟩ (.int .i64 t337)).setCell ⟨gb341, 3, none⟩ (.int .i64 t338)) = w10 at n0_ n1_ n2_ n3_ n4_ ⊢
 have BK334 := n0_; have BK341 := n1_; have HI0 := n2_; have HK := n3_; have HB := n4_; clear n0_ n1_ n2_ n3_ n4_
 have n0_ := Aside0.mk (blk_drew BK334.out)
 have n1_ := Aside0.mk (blk_drew BK341.out)
 have n2_ := Aside0.mk (IsS101.drew HI0.out)
 have n3_ := Aside0.mk (keep_drew HK.out)
 have n4_ := Aside0.mk (below_drew1 HB.out)
 clear BK334; clear BK341; clear HI0; clear HK; clear HB; have BK334 := n0_; have BK341 := n1_; have HI0 := n2_; have HK := n3_; have HB := n4_; clear n0_ n1_ n2_ n3_ n4_
 refine start_ (n := 6) (S := fun w' => w'.cell? ⟨gb341, 0, none⟩ = some (.int .i64 t335) ∧ w'.cell? ⟨gb341, 1, none⟩ = some (.int .i64 t336) ∧ w'.cell? ⟨gb341, 2, none⟩ = some (.int .i64 t337) ∧ w'.cell? ⟨gb341, 3, none⟩ = some (.int .i64 t338)) (ds := []) #[false, false, false, false, false, false] (by kernel_rfl) rfl rfl ⟨(blk_cell BK341.out 0).trans rfl, (blk_cell BK341.out 1).trans rfl, (blk_cell BK341.out 2).trans rfl, (blk_cell BK341.out 3).trans rfl⟩ (fun hHeld => ?_)
 generalize w10.drew = w11 at BK334 BK341 HI0 HK HB hHeld ⊢
 refine pure_ (i := 1) (N := some 12) (v := ?_) (a' := ?_) #[false, true, false, false, false, false] rfl rfl (by kernel_rfl) (fun _ _ _ h => h) (Or.inl ⟨by rfl, ?_⟩) ?_ ?_
 rotate_left
 ·intro w'
  go_simp
  with_reducible rfl
 rotate_left
 ·simp only [Act.put, zA, zB, zC, i64_w, i32_w]
  rfl
 refine take_ (i := 0) (N := some 11) (v := ?_) (a' := ?_) #[true, true, false, false, false, false] rfl rfl (by kernel_rfl) (fun _ _ _ h => h) (Or.inl ⟨by rfl, ?_⟩) hHeld ?_ ?_
 rotate_left
 ·rintro w' ⟨s0, s1, s2, s3⟩
  go_simp
  with_reducible rfl
 rotate_left
 ·simp only [Act.put, zA, zB, zC, i64_w, i32_w]
  rfl
 refine take_ (i := 2) (N := some 13) (v := ?_) (a' := ?_) #[true, true, true, false, false, false] rfl rfl (by kernel_rfl) (fun _ _ _ h => h) (Or.inl ⟨by rfl, ?_⟩) hHeld ?_ ?_
 rotate_left
 ·rintro w' ⟨s0, s1, s2, s3⟩
  go_simp
  with_reducible rfl
 rotate_left
 ·simp only [Act.put, zA, zB, zC, i64_w, i32_w]
  rfl
 refine one_ (i := 3) (N := some 14) #[true, true, true, true, false, false] rfl rfl (by kernel_rfl) (by decide) (fun K hK => ?_)
 refine goes_ Try.func130 (by kernel_rfl) rfl #[.pointer (some ⟨gst, 0, none⟩), .agg #[.int .i64 t335, .int .i64 t336, .int .i64 t337, .int .i64 t338]] (by rfl) rfl rfl gl_ ?_
 with_reducible refine (spec_l1Cur_checks.calls k gst l0 t339 t340 t335 t336 t337 t338 t342 t345 t346 w _ ?side1 ?side2 A3.out).mono ?_
 (case side1 => repeat (first | (with_reducible first | exact HI0.out | apply IsS101.alloc | apply IsS101.drewN | apply IsS101.drew | apply IsS101.set_1 | apply IsS101.set_2 | refine IsS101.far ?_ NB0_334.out _ | refine IsS101.far ?_ NB0_341.out _) | exact HI0.out))
 (case side2 => repeat (first | (with_reducible first | exact HB.out | apply below_alloc | apply pw_below_drewN | apply below_drew1 | refine below_set ?_ (IsS101.ge HI0.out) | refine below_set ?_ GE334.out | refine below_set ?_ GE341.out) | exact HB.out))
 rintro e w12 ⟨v343, rfl, ho0, hi, hb, hk⟩
 refine ⟨_, rfl, ?_⟩
 have n0_ := Aside0.mk (KeepBut.blk hk (g' := gb334) (o := .cells #[.int .i64 0, .int .i64 0, .int .i64 0, .int .i64 0] 44 (0, 0)) (by (with_reducible repeat (first | refine blk_drewN ?_ _ | refine blk_drew ?_ | refine blk_alloc ?_ _)); exact BK334.out) NB334_0.out (by simp))
 have n1_ := Aside0.mk (KeepBut.blk hk (g' := gb341) (o := .cells #[.int .i64 t335, .int .i64 t336, .int .i64 t337, .int .i64 t338] 44 (0, 0)) (by (with_reducible repeat (first | refine blk_drewN ?_ _ | refine blk_drew ?_ | refine blk_alloc ?_ _)); exact BK341.out) NB341_0.out (by simp))
 have n2_ := Aside0.mk (Kd.R_lower ho0 (keep_size (w := w) (g := gst) (row := none) (by repeat (first | (with_reducible first | exact HK.out | apply KeepBut.set_ | apply keep_drewN | apply keep_drew | apply keep_alloc | refine keep_far ?_ GW334.out _ | refine keep_far ?_ GW341.out _) | exact HK.out))))
 have n3_ := Aside0.mk (KeepBut.trans (by repeat (first | (with_reducible first | exact HK.out | apply KeepBut.set_ | apply keep_drewN | apply keep_drew | apply keep_alloc | refine keep_far ?_ GW334.out _ | refine keep_far ?_ GW341.out _) | exact HK.out)) hk (.inl rfl))
 have n4_ := Aside0.mk (hb)
 have n5_ := Aside0.mk (hi)
 clear BK334; clear BK341; clear HK; clear HB; clear HI0; have BK334 := n0_; have BK341 := n1_; have HO344 := n2_; have HK := n3_; have HB := n4_; have HI0 := n5_; clear n0_ n1_ n2_ n3_ n4_ n5_; (try clear hb)
 
 (try clear hk); (try clear hi); (try clear ho0)
 refine hK.out _ _ ⟨(blk_cell BK341.out 0).trans rfl, (blk_cell BK341.out 1).trans rfl, (blk_cell BK341.out 2).trans rfl, (blk_cell BK341.out 3).trans rfl⟩ (fun hHeld => ?_)
 clear hK K
 refine norm_ (a' := ?_) ?_ ?_
 rotate_left
 ·show Act.put _ (some 14) _ = _
  simp only [Act.put, zA, zB, zC, i64_w, i32_w]
  rfl
 refine one_ (i := 4) (N := none) #[true, true, true, true, true, false] rfl rfl (by kernel_rfl) (by decide) (fun K hK => ?_)
 have hs13 : w12.cell? ⟨gb334, 0, none⟩ = some (.int .i64 0) := (blk_cell BK334.out 0).trans rfl
 have hfs13 := blk_frozen BK334.out 0; have hns13_1 := NB341_334.out; have hms13_1 := NB334_341.out
 have hs14 : w12.cell? ⟨gb334, 1, none⟩ = some (.int .i64 0) := (blk_cell BK334.out 1).trans rfl
 have hfs14 := blk_frozen BK334.out 1; have hns14_1 := NB341_334.out; have hms14_1 := NB334_341.out
 have hs15 : w12.cell? ⟨gb334, 2, none⟩ = some (.int .i64 0) := (blk_cell BK334.out 2).trans rfl
 have hfs15 := blk_frozen BK334.out 2; have hns15_1 := NB341_334.out; have hms15_1 := NB334_341.out
 have hs16 : w12.cell? ⟨gb334, 3, none⟩ = some (.int .i64 0) := (blk_cell BK334.out 3).trans rfl
 have hfs16 := blk_frozen BK334.out 3; have hns16_1 := NB341_334.out; have hms16_1 := NB334_341.out
 refine skip_ (w1 := ?_) (by rfl) rfl ?_ ?_
 rotate_left
 ·go_simp
  rfl
 refine hK.out _ _ ⟨((cell_far (p := ⟨gb334, _, none⟩) NB341_334.out _).trans (((cell_far (p := ⟨gb334, _, none⟩) NB341_334.out _).trans (((cell_far (p := ⟨gb334, _, none⟩) NB341_334.out _).trans (((cell_far (p := ⟨gb334, _, none⟩) NB341_334.out _).trans (hHeld.1)))))))), ((cell_far (p := ⟨gb334, _, none⟩) NB341_334.out _).trans (((cell_far (p := ⟨gb334, _, none⟩) NB341_334.out _).trans (((cell_far (p := ⟨gb334, _, none⟩) NB341_334.out _).trans (((cell_far (p := ⟨gb334, _, none⟩) NB341_334.out _).trans (hHeld.2.1)))))))), ((cell_far (p := ⟨gb334, _, none⟩) NB341_334.out _).trans (((cell_far (p := ⟨gb334, _, none⟩) NB341_334.out _).trans (((cell_far (p := ⟨gb334, _, none⟩) NB341_334.out _).trans (((cell_far (p := ⟨gb334, _, none⟩) NB341_334.out _).trans (hHeld.2.2.1)))))))), ((cell_far (p := ⟨gb334, _, none⟩) NB341_334.out _).trans (((cell_far (p := ⟨gb334, _, none⟩) NB341_334.out _).trans (((cell_far (p := ⟨gb334, _, none⟩) NB341_334.out _).trans (((cell_far (p := ⟨gb334, _, none⟩) NB341_334.out _).trans (hHeld.2.2.2))))))))⟩ (fun hHeld => ?_)
 clear hK K
 refine pure_ (i := 5) (N := some 3) (v := ?_) (a' := ?_) #[true, true, true, true, true, true] rfl rfl (by kernel_rfl) (fun _ _ _ h => h) (Or.inl ⟨by rfl, ?_⟩) ?_ ?_
 rotate_left
 ·intro w'
  go_simp
  with_reducible rfl
 rotate_left
 ·simp only [Act.put, zA, zB, zC, i64_w, i32_w]
  rfl
 refine done_ (by kernel_rfl) ?_
 try go_wp2
 refine bodyPost_ret (results_ct rfl _ _ gb334 44 #[.int .i64 t335, .int .i64 t336, .int .i64 t337, .int .i64 t338] (0, 0) _ rfl (by (with_reducible repeat (first | refine blk_drewN ?_ _ | refine blk_drew ?_ | refine blk_alloc ?_ _)); refine blk_put (cs := #[.int .i64 t335, .int .i64 t336, .int .i64 t337, .int .i64 0]) ?_ 3 _ rfl; (with_reducible repeat (first | refine blk_drewN ?_ _ | refine blk_drew ?_ | refine blk_alloc ?_ _)); refine blk_put (cs := #[.int .i64 t335, .int .i64 t336, .int .i64 0, .int .i64 0]) ?_ 2 _ rfl; (with_reducible repeat (first | refine blk_drewN ?_ _ | refine blk_drew ?_ | refine blk_alloc ?_ _)); refine blk_put (cs := #[.int .i64 t335, .int .i64 0, .int .i64 0, .int .i64 0]) ?_ 1 _ rfl; (with_reducible repeat (first | refine blk_drewN ?_ _ | refine blk_drew ?_ | refine blk_alloc ?_ _)); refine blk_put (cs := #[.int .i64 0, .int .i64 0, .int .i64 0, .int .i64 0]) ?_ 0 _ rfl; (with_reducible repeat (first | refine blk_drewN ?_ _ | refine blk_drew ?_ | refine blk_alloc ?_ _)); exact BK334.out) Try.underlying44 rfl (by kernel_rfl)) rfl ?_
 exact ⟨_, by first | rfl | (simp <;> rfl) | (simp [*] <;> rfl), by (with_reducible repeat (first | apply Kd.R_alloc | apply Kd.R_drewN | apply Kd.R_drew)); exact Kd.R_mono (Kd.R_far (p := ⟨gb334, 3, none⟩) (Kd.R_far (p := ⟨gb334, 2, none⟩) (Kd.R_far (p := ⟨gb334, 1, none⟩) (Kd.R_far (p := ⟨gb334, 0, none⟩) (Kd.R_types HO344.out BK334.out (by decide)) (fun _ hk => hk.2) (.int .i64 t335)) (fun _ hk => hk.2) (.int .i64 t336)) (fun _ hk => hk.2) (.int .i64 t337)) (fun _ hk => hk.2) (.int .i64 t338)) (fun _ hk => trivial), gst, by repeat (first | (with_reducible first | exact HI0.out | apply IsS101.alloc | apply IsS101.drewN | apply IsS101.drew | apply IsS101.set_1 | apply IsS101.set_2 | refine IsS101.far ?_ NB0_334.out _ | refine IsS101.far ?_ NB0_341.out _) | exact HI0.out), by repeat (first | (with_reducible first | exact HB.out | apply below_alloc | apply pw_below_drewN | apply below_drew1 | refine below_set ?_ (IsS101.ge HI0.out) | refine below_set ?_ GE334.out | refine below_set ?_ GE341.out) | exact HB.out), by repeat (first | (with_reducible first | exact HK.out | apply KeepBut.set_ | apply keep_drewN | apply keep_drew | apply keep_alloc | refine keep_far ?_ GW334.out _ | refine keep_far ?_ GW341.out _) | exact HK.out)⟩

/-! ### spec_DrawWorstCheck: function 113 -/
def spec_DrawWorstCheck.f (k : Nat) (l0 : List Int) : Option (Int × Int × Int × Int × (List (S46))) := (spec_DrawWorstCheck_in.f k l0 0 0).bind fun t => some (t.1, t.2.1, t.2.2.1, t.2.2.2.1, t.2.2.2.2.1)
theorem spec_DrawWorstCheck.mono : ∀ l0 k, LeO (spec_DrawWorstCheck.f k l0) (spec_DrawWorstCheck.f (k + 1) l0) := by
 intro l0 k
 unfold spec_DrawWorstCheck.f
 exact LeO.bind (spec_DrawWorstCheck_in.mono l0 0 0 k) (fun _ => LeO.refl _)
theorem spec_DrawWorstCheck.calls (k : Nat) (A0 : Option Addr) (c0 : Nat) (l0 : List Int) (r1 : Int) (r2 : Int) (r3 : Int) (r4 : Int) (r5 : List (S46)) (w : World) (hr0 : Kd.C (Kd.int .u8) w A0 l0.length l0) (hc0 : l0.length ≤ c0) (h : spec_DrawWorstCheck.f k l0 = some (r1, r2, r3, r4, r5)) :
  Calls Try.prog 113 #[.slice A0 l0.length c0] w fun e w' => ∃ v4_ : Value, e = .returned (.tuple #[.agg #[.int .i64 r1, .int .i64 r2, .int .i64 r3, .int .i64 r4], v4_]) ∧ Kd.R k46 46 w' w.heap.size (fun _ => True) v4_ r5 ∧ Below w.heap.size w w' := by
 unfold spec_DrawWorstCheck.f at h
 obtain ⟨⟨r1, r2, r3, r4, r5, r6, r7⟩, h1, h2⟩ := Option.bind_eq_some_iff.mp h
 simp only [Option.some.injEq, Prod.mk.injEq] at h2
 obtain ⟨rfl, rfl, rfl, rfl, rfl⟩ := h2
 refine (spec_DrawWorstCheck_in.calls k A0 c0 l0 r1 r2 r3 r4 r5 r6 r7 w hr0 hc0 h1).mono ?_
 rintro e w' ⟨v4_, he_, h1_, _, _, hb_, _⟩
 exact ⟨v4_, he_, Kd.R_lower h1_ (Nat.le_refl _), hb_⟩

/-! ### spec_DrawFitScale: function 70 -/
def spec_DrawFitScale.f (k : Nat) (l0 : List Int) : Option (Int × Int × Int × Int × (List (S46))) := (spec_DrawWorstCheck.f k l0).bind fun bt348 => (some (bt348.1, bt348.2.1, bt348.2.2.1, bt348.2.2.2.1, bt348.2.2.2.2))
theorem spec_DrawFitScale.mono : ∀ a0 k, LeO (spec_DrawFitScale.f k a0) (spec_DrawFitScale.f (k + 1) a0) := by
 intro a0 k
 unfold spec_DrawFitScale.f
 repeat' first
   | (with_reducible exact spec_DrawWorstCheck.mono _ _)
   | (with_reducible exact LeO.refl _)
   | (with_reducible exact LeO.none _)
   | (with_reducible refine LeO.ite ?_ ?_)
   | (with_reducible refine LeO.bind ?_ (fun _ => ?_))
   | exact spec_DrawWorstCheck.mono _ _
   | exact LeO.none _
   | refine LeO.ite ?_ ?_
   | refine LeO.bind ?_ (fun _ => ?_)
set_option maxHeartbeats 8000000 in
set_option maxRecDepth 100000 in
theorem spec_DrawFitScale.calls (k : Nat) (A0 : Option Addr) (c0 : Nat) (l0 : List Int) (r1 : Int) (r2 : Int) (r3 : Int) (r4 : Int) (r5 : List (S46)) (w : World) (hr0 : Kd.C (Kd.int .u8) w A0 l0.length l0) (hc0 : l0.length ≤ c0) (h : spec_DrawFitScale.f k l0 = some (r1, r2, r3, r4, r5)) :
  Calls Try.prog 70 #[.slice A0 l0.length c0] w fun e w' => ∃ v4_ : Value, e = .returned (.tuple #[.agg #[.int .i64 r1, .int .i64 r2, .int .i64 r3, .int .i64 r4], v4_]) ∧ Kd.R k46 46 w' w.heap.size (fun _ => True) v4_ r5 ∧ Below w.heap.size w w' := by
 have hu44 := Try.underlying44; have HR0 := Aside0.mk hr0; have HC0 := Aside0.mk hc0; clear hr0 hc0
 have HB := Aside0.mk (Below.refl w.heap.size w)
 have H : ((spec_DrawWorstCheck.f k l0).bind fun bt348 => (some (bt348.1, bt348.2.1, bt348.2.2.1, bt348.2.2.2.1, bt348.2.2.2.2))) = some (r1, r2, r3, r4, r5) := h
 clear h; replace H := Option.bind_eq_some_iff.mp H; obtain ⟨⟨t348, t349, t350, t351, t352⟩, A20, H⟩ := H
 replace H : (some (t348, t349, t350, t351, t352)) = some (r1, r2, r3, r4, r5) := H
 have A2 := Aside0.mk A20; clear A20
 simp only [Option.some.injEq, Prod.mk.injEq] at H
 obtain ⟨rfl, rfl, rfl, rfl, rfl⟩ := H
 go_enter Try.func70, Try.ntmps70
 go_wp2_with (first | ((with_reducible refine gate_dst (N := 2) rfl ?_); refine box_event ?hg (N := 2) ?hd (cs := #[.int .i64 0, .int .i64 0, .int .i64 0, .int .i64 0]) (t := 44) ?hr ?_; (case hd => rfl); (case hg => rfl); (case hr => first | (go_simp; done) | (go_simp; rfl)); intro gb347 hg w3 hbox hb; have n0_ := Aside0.mk (below_step bx_ hb); have n1_ := Aside0.mk (hbox); have n2_ := Aside0.mk ((by rw [hg]; exact (below_size bx_) : w.heap.size ≤ gb347)); have n3_ := Aside0.mk ((by rw [hg]; exact (below_size bx_) : w.heap.size ≤ gb347)); clear HB; have HB := n0_; have BK347 := n1_; have GW347 := n2_; have GE347 := n3_; clear n0_ n1_ n2_ n3_; clear hb hbox hg) | ((with_reducible refine gate_callee (f := 113) rfl ?_); refine goesL_ (some 5) rfl rfl Try.func113 (by kernel_rfl) rfl #[.slice A0 l0.length c0] rfl gl_ ?_; (with_reducible refine (spec_DrawWorstCheck.calls k _ _ l0 t348 t349 t350 t351 t352 _ ?side1 ?side2 A2.out).mono ?_); (case side1 => repeat (first | exact (Kd.C_below HR0.out HB.out) | (with_reducible refine Kd.C_alloc ?_ _) | (with_reducible refine Kd.C_drewN ?_ _) | (with_reducible refine Kd.C_drew ?_))); (case side2 => exact HC0.out); rintro e w4 ⟨v353, rfl, ho0, hb⟩; refine ⟨_, rfl, ?_⟩; have n0_ := Aside0.mk (Kd.R_lower ho0 (below_size bx_)); have n1_ := Aside0.mk (blk_below (bk_ BK347) hb); have n2_ := Aside0.mk (below_step bx_ hb); clear BK347; clear HB; have HO354 := n0_; have BK347 := n1_; have HB := n2_; clear n0_ n1_ n2_; (try clear hb); (try clear hk); (try clear hi); (try clear ho0); have z5_0 : w4.cell? ⟨gb347, 0, none⟩ = some (.int .i64 0) := (blk_cell BK347.out 0).trans rfl; have z5_1 : w4.cell? ⟨gb347, 1, none⟩ = some (.int .i64 0) := (blk_cell BK347.out 1).trans rfl; have z5_2 : w4.cell? ⟨gb347, 2, none⟩ = some (.int .i64 0) := (blk_cell BK347.out 2).trans rfl; have z5_3 : w4.cell? ⟨gb347, 3, none⟩ = some (.int .i64 0) := (blk_cell BK347.out 3).trans rfl; have y5_0 := blk_frozen BK347.out 0; have y5_1 := blk_frozen BK347.out 1; have y5_2 := blk_frozen BK347.out 2; have y5_3 := blk_frozen BK347.out 3))
 refine bodyPost_ret (results_ct rfl _ _ gb347 44 #[.int .i64 t348, .int .i64 t349, .int .i64 t350, .int .i64 t351] (0, 0) _ rfl (by (with_reducible repeat (first | refine blk_drewN ?_ _ | refine blk_drew ?_ | refine blk_alloc ?_ _)); refine blk_put (cs := #[.int .i64 t348, .int .i64 t349, .int .i64 t350, .int .i64 0]) ?_ 3 _ rfl; (with_reducible repeat (first | refine blk_drewN ?_ _ | refine blk_drew ?_ | refine blk_alloc ?_ _)); refine blk_put (cs := #[.int .i64 t348, .int .i64 t349, .int .i64 0, .int .i64 0]) ?_ 2 _ rfl; (with_reducible repeat (first | refine blk_drewN ?_ _ | refine blk_drew ?_ | refine blk_alloc ?_ _)); refine blk_put (cs := #[.int .i64 t348, .int .i64 0, .int .i64 0, .int .i64 0]) ?_ 1 _ rfl; (with_reducible repeat (first | refine blk_drewN ?_ _ | refine blk_drew ?_ | refine blk_alloc ?_ _)); refine blk_put (cs := #[.int .i64 0, .int .i64 0, .int .i64 0, .int .i64 0]) ?_ 0 _ rfl; (with_reducible repeat (first | refine blk_drewN ?_ _ | refine blk_drew ?_ | refine blk_alloc ?_ _)); exact BK347.out) Try.underlying44 rfl (by kernel_rfl)) rfl ?_
 exact ⟨_, by first | rfl | (simp <;> rfl) | (simp [*] <;> rfl), by (with_reducible repeat (first | apply Kd.R_alloc | apply Kd.R_drewN | apply Kd.R_drew)); exact Kd.R_mono (Kd.R_far (p := ⟨gb347, 3, none⟩) (Kd.R_far (p := ⟨gb347, 2, none⟩) (Kd.R_far (p := ⟨gb347, 1, none⟩) (Kd.R_far (p := ⟨gb347, 0, none⟩) (Kd.R_types HO354.out BK347.out (by decide)) (fun _ hk => hk.2) (.int .i64 t348)) (fun _ hk => hk.2) (.int .i64 t349)) (fun _ hk => hk.2) (.int .i64 t350)) (fun _ hk => hk.2) (.int .i64 t351)) (fun _ hk => trivial), by repeat (first | (with_reducible first | exact HB.out | apply below_alloc | apply pw_below_drewN | apply below_drew1 | refine below_set ?_ GE347.out) | exact HB.out)⟩

/-! ### spec_DrawAreTools_in: function 114 -/
mutual
def spec_DrawAreTools_in.l0 : Nat → List (S44) → Int → Int → List Int → Int → Int → Option ((List (S44)) × Int × Int)
 | 0, _, _, _, _, _, _ => none
 | k + 1, x4, x5, x6, x1000, x1001, x1002 => if x6 > 0 then ((spec_l1Cur_pick.f x1000 x1001 x1002 3).bind fun bt361 => ((spec_l1Cur_pick.f x1000 bt361.2.1 bt361.2.2 60).bind fun bt364 => ((spec_l1Cur_tool.f k x1000 bt364.2.1 bt364.2.2 (wrap64 ((wrap64 ((wrap64 (x5 + 1)) + bt361.1)) - (wrap64 (Int.tdiv bt364.1 59))))).bind fun bt367 => (if x4.length < 4398046511104 then (spec_DrawAreTools_in.l0 k (x4 ++ [(⟨bt367.1, bt367.2.1, bt367.2.2.1, bt367.2.2.2.1⟩ : S44)]) (wrap64 ((wrap64 ((wrap64 (x5 + 1)) + bt361.1)) - (wrap64 (Int.tdiv bt364.1 59)))) (wrap64 (x6 - 1)) x1000 bt367.2.2.2.2.1 bt367.2.2.2.2.2) else (none))))) else ((spec_l1Cur_one.f x1000 x1001 x1002 24).bind fun bt376 => (if bt376.1 = true then (spec_DrawAreTools_in.l1 k x4 x5 x1000 bt376.2.1 bt376.2.2) else (some (x4, bt376.2.1, bt376.2.2))))
def spec_DrawAreTools_in.l1 : Nat → List (S44) → Int → List Int → Int → Int → Option ((List (S44)) × Int × Int)
 | 0, _, _, _, _, _ => none
 | k + 1, x4, x5, x1000, x1001, x1002 => (spec_l1Cur_pick.f x1000 x1001 x1002 2).bind fun bt379 => (if (x4.length : Int) < (wrap64 (8 + bt379.1)) then (if x4.length < 4398046511104 then (spec_DrawAreTools_in.l1 k (x4 ++ [(⟨wrap64 (x5 + 1), 0, 0, 1000⟩ : S44)]) (wrap64 (x5 + 1)) x1000 bt379.2.1 bt379.2.2) else (none)) else (some (x4, bt379.2.1, bt379.2.2)))
end
def spec_DrawAreTools_in.f (k : Nat) (s0_0 : List Int) (s0_1 : Int) (s0_2 : Int) : Option ((List (S44)) × Int × Int) := (spec_l1Cur_pick.f s0_0 s0_1 s0_2 7).bind fun bt358 => (spec_DrawAreTools_in.l0 k (([] : List (S44))) 0 bt358.1 s0_0 bt358.2.1 bt358.2.2)
theorem spec_DrawAreTools_in.mono_l : ∀ k, (∀ y0 y1 y2 y3 y4 y5, LeO (spec_DrawAreTools_in.l0 k y0 y1 y2 y3 y4 y5) (spec_DrawAreTools_in.l0 (k + 1) y0 y1 y2 y3 y4 y5)) ∧ (∀ y0 y1 y2 y3 y4, LeO (spec_DrawAreTools_in.l1 k y0 y1 y2 y3 y4) (spec_DrawAreTools_in.l1 (k + 1) y0 y1 y2 y3 y4))
 | 0 => ⟨fun _ _ _ _ _ _ r h => by simp [spec_DrawAreTools_in.l0] at h, fun _ _ _ _ _ r h => by simp [spec_DrawAreTools_in.l1] at h⟩
 | k + 1 => by
  obtain ⟨ih0, ih1⟩ := spec_DrawAreTools_in.mono_l k
  refine ⟨?_, ?_⟩
  ·intro y0 y1 y2 y3 y4 y5
   unfold spec_DrawAreTools_in.l0
   repeat' first
   | (with_reducible exact ih0 _ _ _ _ _ _)
   | (with_reducible exact ih1 _ _ _ _ _)
   | (with_reducible exact spec_l1Cur_tool.mono _ _ _ _ _)
   | (with_reducible exact LeO.refl _)
   | (with_reducible exact LeO.none _)
   | (with_reducible refine LeO.ite ?_ ?_)
   | (with_reducible refine LeO.bind ?_ (fun _ => ?_))
   | exact ih0 _ _ _ _ _ _
   | exact ih1 _ _ _ _ _
   | exact spec_l1Cur_tool.mono _ _ _ _ _
   | exact LeO.none _
   | refine LeO.ite ?_ ?_
   | refine LeO.bind ?_ (fun _ => ?_)
  ·intro y0 y1 y2 y3 y4
   unfold spec_DrawAreTools_in.l1
   repeat' first
   | (with_reducible exact ih0 _ _ _ _ _ _)
   | (with_reducible exact ih1 _ _ _ _ _)
   | (with_reducible exact spec_l1Cur_tool.mono _ _ _ _ _)
   | (with_reducible exact LeO.refl _)
   | (with_reducible exact LeO.none _)
   | (with_reducible refine LeO.ite ?_ ?_)
   | (with_reducible refine LeO.bind ?_ (fun _ => ?_))
   | exact ih0 _ _ _ _ _ _
   | exact ih1 _ _ _ _ _
   | exact spec_l1Cur_tool.mono _ _ _ _ _
   | exact LeO.none _
   | refine LeO.ite ?_ ?_
   | refine LeO.bind ?_ (fun _ => ?_)
theorem spec_DrawAreTools_in.mono : ∀ a0 a1 a2 k, LeO (spec_DrawAreTools_in.f k a0 a1 a2) (spec_DrawAreTools_in.f (k + 1) a0 a1 a2) := by
 intro a0 a1 a2 k
 obtain ⟨ih0, ih1⟩ := spec_DrawAreTools_in.mono_l k
 unfold spec_DrawAreTools_in.f
 repeat' first
   | (with_reducible exact ih0 _ _ _ _ _ _)
   | (with_reducible exact ih1 _ _ _ _ _)
   | (with_reducible exact spec_l1Cur_tool.mono _ _ _ _ _)
   | (with_reducible exact LeO.refl _)
   | (with_reducible exact LeO.none _)
   | (with_reducible refine LeO.ite ?_ ?_)
   | (with_reducible refine LeO.bind ?_ (fun _ => ?_))
   | exact ih0 _ _ _ _ _ _
   | exact ih1 _ _ _ _ _
   | exact spec_l1Cur_tool.mono _ _ _ _ _
   | exact LeO.none _
   | refine LeO.ite ?_ ?_
   | refine LeO.bind ?_ (fun _ => ?_)
set_option maxHeartbeats 8000000 in
set_option maxRecDepth 100000 in
theorem spec_DrawAreTools_in.calls (k : Nat) (A0 : Option Addr) (c0 : Nat) (l0 : List Int) (r1 : List (S44)) (r2 : Int) (r3 : Int) (w : World) (hr0 : Kd.C (Kd.int .u8) w A0 l0.length l0) (hc0 : l0.length ≤ c0) (h : spec_DrawAreTools_in.f k l0 0 0 = some (r1, r2, r3)) :
  Calls Try.prog 114 #[.slice A0 l0.length c0] w fun e w' => ∃ v0_ : Value, e = .returned (v0_) ∧ Kd.R k44 44 w' (w.alloc (.cells #[.slice A0 l0.length c0, .int .i64 0, .int .u64 0] 101)).heap.size (fun _ => True) v0_ r1 ∧ IsS101 w w' w.heap.size l0 r2 r3 ∧ Below w.heap.size w w' ∧ KeepBut (w.alloc (.cells #[.slice A0 l0.length c0, .int .i64 0, .int .u64 0] 101)) w' w.heap.size none := by
 have hI : IsS101 w (w.alloc (.cells #[.slice A0 l0.length c0, .int .i64 0, .int .u64 0] 101)) w.heap.size l0 0 0 := ⟨A0, c0, heap_alloc_new w _, Nat.le_refl _, hr0⟩
 have hB : Below w.heap.size w (w.alloc (.cells #[.slice A0 l0.length c0, .int .i64 0, .int .u64 0] 101)) := below_alloc (Below.refl _ _) _
 clear hr0; have hu44 := Try.underlying44; have HI0 := Aside0.mk hI
 have HK := Aside0.mk (KeepBut.refl (w.alloc (.cells #[.slice A0 l0.length c0, .int .i64 0, .int .u64 0] 101)) w.heap.size none)
 have HL := Aside0.mk hB.size; clear hI; have HW0 := Aside0.mk hB.size; have HB := Aside0.mk hB; clear hB
 have H : ((spec_l1Cur_pick.f l0 0 0 7).bind fun bt358 => (spec_DrawAreTools_in.l0 k (([] : List (S44))) 0 bt358.1 l0 bt358.2.1 bt358.2.2)) = some (r1, r2, r3) := h
 clear h
 obtain ⟨y355, hy355⟩ : ∃ y_ : List (S44), y_ = (([] : List (S44))) := ⟨_, rfl⟩
 replace H : ((spec_l1Cur_pick.f l0 0 0 7).bind fun bt358 => (spec_DrawAreTools_in.l0 k y355 0 bt358.1 l0 bt358.2.1 bt358.2.2)) = some (r1, r2, r3) := by first | (rw [hy355]; with_reducible exact H) | (have H2_ := (Option.bind_some _ _).symm.trans H; rw [hy355]; with_reducible exact H2_) | (have H2_ := (Option.bind_some _ _).symm.trans H; with_reducible exact H2_) | with_reducible exact H | (rw [hy355]; exact H) | exact H
 have Ny355 := Aside0.mk hy355; clear hy355; replace H := Option.bind_eq_some_iff.mp H; obtain ⟨⟨t358, t359, t360⟩, A20, H⟩ := H
 replace H : (spec_DrawAreTools_in.l0 k y355 0 t358 l0 t359 t360) = some (r1, r2, r3) := H
 have A2 := Aside0.mk A20; clear A20
 have H' := Aside0.mk H
 clear H
 go_enter Try.func114, Try.ntmps114
 go_wp2_with (first | ((with_reducible refine gate_dst (N := 10) rfl ?_); refine Kd.R_lit k44 _ 44 ?hg (N := 10) ?hd (xs := ([] : List (S44))) (inner := []) (ok := fun _ => True) (okp := fun _ => True) ?hr ?hp (fun _ hk => hk) trivial (Below.refl _ _) (Nat.le_refl _) (by simp) ?_; (case hd => rfl); (case hg => rfl); (case hr => first | (go_simp; done) | (go_simp; rfl)); (case hp => exact (Reps.none _ _)); intro v356 w3 ho4 hb hg_ hnew_; clear hg_ hnew_; (first | rw [← Ny355.out] at ho4 | (simp only [Int.reduceToNat] at ho4; rw [← Ny355.out] at ho4)); have n0_ := Aside0.mk (Kd.R_lower ho4 (keep_size (w := (w.alloc (.cells #[.slice A0 l0.length c0, .int .i64 0, .int .u64 0] 101))) (g := w.heap.size) (row := none) (by repeat (first | (with_reducible first | exact HK.out | apply KeepBut.set_ | apply keep_drewN | apply keep_drew | apply keep_alloc) | exact HK.out)))); have n1_ := Aside0.mk (IsS101.below (by repeat (first | (with_reducible first | exact HI0.out | apply IsS101.alloc | apply IsS101.drewN | apply IsS101.drew | apply IsS101.set_1 | apply IsS101.set_2) | exact HI0.out)) hb); have n2_ := Aside0.mk (KeepBut.trans (by repeat (first | (with_reducible first | exact HK.out | apply KeepBut.set_ | apply keep_drewN | apply keep_drew | apply keep_alloc) | exact HK.out)) (KeepBut.of_below hb w.heap.size none) (.inl rfl)); have n3_ := Aside0.mk (below_step (by repeat (first | (with_reducible first | exact HB.out | apply below_alloc | apply pw_below_drewN | apply below_drew1 | refine below_set ?_ (IsS101.ge HI0.out)) | exact HB.out)) hb); clear HI0; clear HK; clear HB; have HO357 := n0_; have HI0 := n1_; have HK := n2_; have HB := n3_; clear n0_ n1_ n2_ n3_; clear hb ho4) | ((with_reducible refine gate_callee (f := 84) rfl ?_); refine goesL_ (some 12) rfl rfl Try.func84 (by kernel_rfl) rfl #[.pointer (some ⟨w.heap.size, 0, none⟩), .int .i64 7] rfl gl_ ?_; (with_reducible refine (spec_l1Cur_pick.calls w.heap.size l0 0 0 7 t358 t359 t360 w _ ?side1 ?side2 A2.out).mono ?_); (case side1 => repeat (first | (with_reducible first | exact HI0.out | apply IsS101.alloc | apply IsS101.drewN | apply IsS101.drew | apply IsS101.set_1 | apply IsS101.set_2) | exact HI0.out)); (case side2 => repeat (first | (with_reducible first | exact HB.out | apply below_alloc | apply pw_below_drewN | apply below_drew1 | refine below_set ?_ (IsS101.ge HI0.out)) | exact HB.out)); rintro e w5 ⟨rfl, hi, hb, hk⟩; refine ⟨_, rfl, ?_⟩; have n0_ := Aside0.mk (Kd.R_mono (Kd.R_keep (IsS101.apart (show IsS101 w _ w.heap.size l0 0 0 from by repeat (first | (with_reducible first | exact HI0.out | apply IsS101.alloc | apply IsS101.drewN | apply IsS101.drew | apply IsS101.set_1 | apply IsS101.set_2) | exact HI0.out)) (kr_ HO357) (by decide)) hk (fun _ h => h.2)) (fun _ h => h.1)); have n1_ := Aside0.mk (KeepBut.trans (by repeat (first | (with_reducible first | exact HK.out | apply KeepBut.set_ | apply keep_drewN | apply keep_drew | apply keep_alloc) | exact HK.out)) hk (.inl rfl)); have n2_ := Aside0.mk (hb); have n3_ := Aside0.mk (hi); clear HO357; clear HK; clear HB; clear HI0; have HO357 := n0_; have HK := n1_; have HB := n2_; have HI0 := n3_; clear n0_ n1_ n2_ n3_; (try clear hb); (try clear hk); (try clear hi)))
 go_loopg [4, 5, 6] k (fun kq v4 v5 v6 w' => ∃ (x4_1 : List (S44)) (x5_1 : Int) (x6_1 : Int) (x1001_1 : Int) (x1002_1 : Int), v5 = .int .i64 x5_1 ∧ v6 = .int .i64 x6_1 ∧ Aside0 (spec_DrawAreTools_in.l0 kq x4_1 x5_1 x6_1 l0 x1001_1 x1002_1 = some (r1, r2, r3)) ∧ Aside0 (kq ≤ k) ∧ Aside0 (Kd.R k44 44 w' (w.alloc (.cells #[.slice A0 l0.length c0, .int .i64 0, .int .u64 0] 101)).heap.size (fun _ => True) v4 x4_1) ∧ Aside0 (IsS101 w w' w.heap.size l0 x1001_1 x1002_1) ∧ Aside0 (KeepBut (w.alloc (.cells #[.slice A0 l0.length c0, .int .i64 0, .int .u64 0] 101)) w' w.heap.size none) ∧ Aside0 (Below w.heap.size w w'))
 case atStart => exact ⟨(y355), (0), (t358), (t359), (t360), (by first | rfl | (simp; done) | (simp [*]; done)), (by first | rfl | (simp; done) | (simp [*]; done)), H', ⟨Nat.le_refl _⟩, ⟨by (with_reducible repeat (first | apply Kd.R_alloc | apply Kd.R_drewN | apply Kd.R_drew)); exact HO357.out⟩, ⟨by repeat (first | (with_reducible first | exact HI0.out | apply IsS101.alloc | apply IsS101.drewN | apply IsS101.drew | apply IsS101.set_1 | apply IsS101.set_2) | exact HI0.out)⟩, ⟨by repeat (first | (with_reducible first | exact HK.out | apply KeepBut.set_ | apply keep_drewN | apply keep_drew | apply keep_alloc) | exact HK.out)⟩, ⟨by repeat (first | (with_reducible first | exact HB.out | apply below_alloc | apply pw_below_drewN | apply below_drew1 | refine below_set ?_ (IsS101.ge HI0.out)) | exact HB.out)⟩⟩
 case round =>
  clear H'
  (try clear p2); obtain ⟨x4_1, x5_1, x6_1, x1001_1, x1002_1, rfl, rfl, HA, HK1, HO_4, HI0, HK, HB⟩ := hrel
  cases gk with
  | zero => exact absurd HA.out (by simp [spec_DrawAreTools_in.l0])
  | succ k1 =>
   have H := HA.out; clear HA
   simp only [spec_DrawAreTools_in.l0] at H
   by_cases c6 : x6_1 > 0
   ·rw [if_pos c6] at H
    have c6b0 : decide (0 < x6_1) = true := decide_eq_true c6
    clear c6; replace H := Option.bind_eq_some_iff.mp H; obtain ⟨⟨t361, t362, t363⟩, A70, H⟩ := H
    replace H : ((spec_l1Cur_pick.f l0 t362 t363 60).bind fun bt364 => ((spec_l1Cur_tool.f k1 l0 bt364.2.1 bt364.2.2 (wrap64 ((wrap64 ((wrap64 (x5_1 + 1)) + t361)) - (wrap64 (Int.tdiv bt364.1 59))))).bind fun bt367 => (if x4_1.length < 4398046511104 then (spec_DrawAreTools_in.l0 k1 (x4_1 ++ [(⟨bt367.1, bt367.2.1, bt367.2.2.1, bt367.2.2.2.1⟩ : S44)]) (wrap64 ((wrap64 ((wrap64 (x5_1 + 1)) + t361)) - (wrap64 (Int.tdiv bt364.1 59)))) (wrap64 (x6_1 - 1)) l0 bt367.2.2.2.2.1 bt367.2.2.2.2.2) else (none)))) = some (r1, r2, r3) := H
    have A7 := Aside0.mk A70; clear A70; replace H := Option.bind_eq_some_iff.mp H; obtain ⟨⟨t364, t365, t366⟩, A80, H⟩ := H
    replace H : ((spec_l1Cur_tool.f k1 l0 t365 t366 (wrap64 ((wrap64 ((wrap64 (x5_1 + 1)) + t361)) - (wrap64 (Int.tdiv t364 59))))).bind fun bt367 => (if x4_1.length < 4398046511104 then (spec_DrawAreTools_in.l0 k1 (x4_1 ++ [(⟨bt367.1, bt367.2.1, bt367.2.2.1, bt367.2.2.2.1⟩ : S44)]) (wrap64 ((wrap64 ((wrap64 (x5_1 + 1)) + t361)) - (wrap64 (Int.tdiv t364 59)))) (wrap64 (x6_1 - 1)) l0 bt367.2.2.2.2.1 bt367.2.2.2.2.2) else (none))) = some (r1, r2, r3) := H
    have A8 := Aside0.mk A80; clear A80; replace H := Option.bind_eq_some_iff.mp H; obtain ⟨⟨t367, t368, t369, t370, t371, t372⟩, A90, H⟩ := H
    replace H : (if x4_1.length < 4398046511104 then (spec_DrawAreTools_in.l0 k1 (x4_1 ++ [(⟨t367, t368, t369, t370⟩ : S44)]) (wrap64 ((wrap64 ((wrap64 (x5_1 + 1)) + t361)) - (wrap64 (Int.tdiv t364 59)))) (wrap64 (x6_1 - 1)) l0 t371 t372) else (none)) = some (r1, r2, r3) := H
    have A9 := Aside0.mk A90; clear A90
    by_cases c10 : x4_1.length < 4398046511104
    ·rw [if_pos c10] at H
     have LMc10 := Aside0.mk c10; clear c10
     obtain ⟨y373, hy373⟩ : ∃ y_ : List (S44), y_ = (x4_1 ++ [(⟨t367, t368, t369, t370⟩ : S44)]) := ⟨_, rfl⟩
     replace H : (spec_DrawAreTools_in.l0 k1 y373 (wrap64 ((wrap64 ((wrap64 (x5_1 + 1)) + t361)) - (wrap64 (Int.tdiv t364 59)))) (wrap64 (x6_1 - 1)) l0 t371 t372) = some (r1, r2, r3) := by first | (rw [hy373]; with_reducible exact H) | (have H2_ := (Option.bind_some _ _).symm.trans H; rw [hy373]; with_reducible exact H2_) | (have H2_ := (Option.bind_some _ _).symm.trans H; with_reducible exact H2_) | with_reducible exact H | (rw [hy373]; exact H) | exact H
     have Ny373 := Aside0.mk hy373; clear hy373
     have H' := Aside0.mk H
     clear H
     go_wp2_with (first | ((with_reducible refine gate_callee (f := 84) rfl ?_); refine goesL_ (some 20) rfl rfl Try.func84 (by kernel_rfl) rfl #[.pointer (some ⟨w.heap.size, 0, none⟩), .int .i64 3] rfl gl_ ?_; (with_reducible refine (spec_l1Cur_pick.calls w.heap.size l0 x1001_1 x1002_1 3 t361 t362 t363 w _ ?side1 ?side2 A7.out).mono ?_); (case side1 => repeat (first | (with_reducible first | exact HI0.out | apply IsS101.alloc | apply IsS101.drewN | apply IsS101.drew | apply IsS101.set_1 | apply IsS101.set_2) | exact HI0.out)); (case side2 => repeat (first | (with_reducible first | exact HB.out | apply below_alloc | apply pw_below_drewN | apply below_drew1 | refine below_set ?_ (IsS101.ge HI0.out)) | exact HB.out)); rintro e w11 ⟨rfl, hi, hb, hk⟩; refine ⟨_, rfl, ?_⟩; have n0_ := Aside0.mk (Kd.R_mono (Kd.R_keep (IsS101.apart (show IsS101 w _ w.heap.size l0 x1001_1 x1002_1 from by repeat (first | (with_reducible first | exact HI0.out | apply IsS101.alloc | apply IsS101.drewN | apply IsS101.drew | apply IsS101.set_1 | apply IsS101.set_2) | exact HI0.out)) (kr_ HO_4) (by decide)) hk (fun _ h => h.2)) (fun _ h => h.1)); have n1_ := Aside0.mk (KeepBut.trans (by repeat (first | (with_reducible first | exact HK.out | apply KeepBut.set_ | apply keep_drewN | apply keep_drew | apply keep_alloc) | exact HK.out)) hk (.inl rfl)); have n2_ := Aside0.mk (hb); have n3_ := Aside0.mk (hi); clear HO_4; clear HK; clear HB; clear HI0; have HO_4 := n0_; have HK := n1_; have HB := n2_; have HI0 := n3_; clear n0_ n1_ n2_ n3_; (try clear hb); (try clear hk); (try clear hi)) | ((with_reducible refine gate_callee (f := 84) rfl ?_); refine goesL_ (some 23) rfl rfl Try.func84 (by kernel_rfl) rfl #[.pointer (some ⟨w.heap.size, 0, none⟩), .int .i64 60] rfl gl_ ?_; (with_reducible refine (spec_l1Cur_pick.calls w.heap.size l0 t362 t363 60 t364 t365 t366 w _ ?side1 ?side2 A8.out).mono ?_); (case side1 => repeat (first | (with_reducible first | exact HI0.out | apply IsS101.alloc | apply IsS101.drewN | apply IsS101.drew | apply IsS101.set_1 | apply IsS101.set_2) | exact HI0.out)); (case side2 => repeat (first | (with_reducible first | exact HB.out | apply below_alloc | apply pw_below_drewN | apply below_drew1 | refine below_set ?_ (IsS101.ge HI0.out)) | exact HB.out)); rintro e w12 ⟨rfl, hi, hb, hk⟩; refine ⟨_, rfl, ?_⟩; have n0_ := Aside0.mk (Kd.R_mono (Kd.R_keep (IsS101.apart (show IsS101 w _ w.heap.size l0 t362 t363 from by repeat (first | (with_reducible first | exact HI0.out | apply IsS101.alloc | apply IsS101.drewN | apply IsS101.drew | apply IsS101.set_1 | apply IsS101.set_2) | exact HI0.out)) (kr_ HO_4) (by decide)) hk (fun _ h => h.2)) (fun _ h => h.1)); have n1_ := Aside0.mk (KeepBut.trans (by repeat (first | (with_reducible first | exact HK.out | apply KeepBut.set_ | apply keep_drewN | apply keep_drew | apply keep_alloc) | exact HK.out)) hk (.inl rfl)); have n2_ := Aside0.mk (hb); have n3_ := Aside0.mk (hi); clear HO_4; clear HK; clear HB; clear HI0; have HO_4 := n0_; have HK := n1_; have HB := n2_; have HI0 := n3_; clear n0_ n1_ n2_ n3_; (try clear hb); (try clear hk); (try clear hi)) | ((with_reducible refine gate_callee (f := 105) rfl ?_); refine goesL_ (some 29) rfl rfl Try.func105 (by kernel_rfl) rfl #[.pointer (some ⟨w.heap.size, 0, none⟩), .int .i64 (wrap64 ((wrap64 ((wrap64 (x5_1 + 1)) + t361)) - (wrap64 (Int.tdiv t364 59))))] rfl gl_ ?_; (with_reducible refine (spec_l1Cur_tool.calls k1 w.heap.size l0 t365 t366 (wrap64 ((wrap64 ((wrap64 (x5_1 + 1)) + t361)) - (wrap64 (Int.tdiv t364 59)))) t367 t368 t369 t370 t371 t372 w _ ?side1 ?side2 A9.out).mono ?_); (case side1 => repeat (first | (with_reducible first | exact HI0.out | apply IsS101.alloc | apply IsS101.drewN | apply IsS101.drew | apply IsS101.set_1 | apply IsS101.set_2) | exact HI0.out)); (case side2 => repeat (first | (with_reducible first | exact HB.out | apply below_alloc | apply pw_below_drewN | apply below_drew1 | refine below_set ?_ (IsS101.ge HI0.out)) | exact HB.out)); rintro e w13 ⟨rfl, hi, hb, hk⟩; refine ⟨_, rfl, ?_⟩; have n0_ := Aside0.mk (Kd.R_mono (Kd.R_keep (IsS101.apart (show IsS101 w _ w.heap.size l0 t365 t366 from by repeat (first | (with_reducible first | exact HI0.out | apply IsS101.alloc | apply IsS101.drewN | apply IsS101.drew | apply IsS101.set_1 | apply IsS101.set_2) | exact HI0.out)) (kr_ HO_4) (by decide)) hk (fun _ h => h.2)) (fun _ h => h.1)); have n1_ := Aside0.mk (KeepBut.trans (by repeat (first | (with_reducible first | exact HK.out | apply KeepBut.set_ | apply keep_drewN | apply keep_drew | apply keep_alloc) | exact HK.out)) hk (.inl rfl)); have n2_ := Aside0.mk (hb); have n3_ := Aside0.mk (hi); clear HO_4; clear HK; clear HB; clear HI0; have HO_4 := n0_; have HK := n1_; have HB := n2_; have HI0 := n3_; clear n0_ n1_ n2_ n3_; (try clear hb); (try clear hk); (try clear hi)) | ((with_reducible refine gate_builtin (b := .append) (xs := #[.tmp 26, .tmp 30]) rfl ?_); at_builtin; refine Kd.R_append k44 (w.alloc (.cells #[.slice A0 l0.length c0, .int .i64 0, .int .u64 0] 101)).heap.size rfl (.tmp 26) (.tmp 30) 54 44 (.agg #[(.int .i64 0), (.int .i64 0), (.int .i64 0), (.int .i64 0)]) 32 rfl Try.underlying54 info44 rfl (by decide) (by omega) u4 x4_1 (⟨t367, t368, t369, t370⟩ : S44) [.int .i64 t367, .int .i64 t368, .int .i64 t369, .int .i64 t370] (fun _ => True) (fun _ => False) rfl rfl ?aP (fun _ hk => hk.elim) ?aF ?aO (Below.refl _ _) ?aS ?aL ?_; (case aP => exact k44_mkM _ _ _ (⟨t367, t368, t369, t370⟩ : S44)); (case aF => exact (fun _ _ => trivial)); (case aO => exact (kr_ HO_4)); (case aS => exact (keep_size (w := (w.alloc (.cells #[.slice A0 l0.length c0, .int .i64 0, .int .u64 0] 101))) (g := w.heap.size) (row := none) (by repeat (first | (with_reducible first | exact HK.out | apply KeepBut.set_ | apply keep_drewN | apply keep_drew | apply keep_alloc) | exact HK.out)))); (case aL => have := LMc10.out; omega); intro v374 w14 ho hb hg hat; rw [← Ny373.out] at ho; have n0_ := Aside0.mk (IsS101.grown (by repeat (first | (with_reducible first | exact HI0.out | apply IsS101.alloc | apply IsS101.drewN | apply IsS101.drew | apply IsS101.set_1 | apply IsS101.set_2) | exact HI0.out)) hg (IsS101.own_ne HI0.out HO_4.out (by decide))); have n1_ := Aside0.mk (below_weaken (by repeat (first | (with_reducible first | exact HB.out | apply below_alloc | apply pw_below_drewN | apply below_drew1 | refine below_set ?_ (IsS101.ge HI0.out)) | exact HB.out)) HL.out hb); have n2_ := Aside0.mk (KeepBut.trans (by repeat (first | (with_reducible first | exact HK.out | apply KeepBut.set_ | apply keep_drewN | apply keep_drew | apply keep_alloc) | exact HK.out)) (KeepBut.of_grown hg w.heap.size) (Kd.R_base2 HO_4.out)); have n3_ := Aside0.mk (ho); clear HI0; clear HB; clear HK; clear HO_4; have HI0 := n0_; have HB := n1_; have HK := n2_; have HO375 := n3_; clear n0_ n1_ n2_ n3_; clear ho hb hg hat))
     go_roundg k1
     case measure => have := HK1.out; omega
     case rel => exact ⟨(y373), (wrap64 ((wrap64 ((wrap64 (x5_1 + 1)) + t361)) - (wrap64 (Int.tdiv t364 59)))), (wrap64 (x6_1 - 1)), (t371), (t372), (by first | rfl | (simp; done) | (simp [*]; done)), (by first | rfl | (simp; done) | (simp [*]; done)), H', ⟨by have := HK1.out; omega⟩, ⟨by (with_reducible repeat (first | apply Kd.R_alloc | apply Kd.R_drewN | apply Kd.R_drew)); exact HO375.out⟩, ⟨by repeat (first | (with_reducible first | exact HI0.out | apply IsS101.alloc | apply IsS101.drewN | apply IsS101.drew | apply IsS101.set_1 | apply IsS101.set_2) | exact HI0.out)⟩, ⟨by repeat (first | (with_reducible first | exact HK.out | apply KeepBut.set_ | apply keep_drewN | apply keep_drew | apply keep_alloc) | exact HK.out)⟩, ⟨by repeat (first | (with_reducible first | exact HB.out | apply below_alloc | apply pw_below_drewN | apply below_drew1 | refine below_set ?_ (IsS101.ge HI0.out)) | exact HB.out)⟩⟩
    ·rw [if_neg c10] at H
     exact absurd H (by simp)
   ·rw [if_neg c6] at H
    have c6b0 : decide (0 < x6_1) = false := decide_eq_false c6
    clear c6; replace H := Option.bind_eq_some_iff.mp H; obtain ⟨⟨t376, t377, t378⟩, A150, H⟩ := H
    replace H : (if t376 = true then (spec_DrawAreTools_in.l1 k1 x4_1 x5_1 l0 t377 t378) else (some (x4_1, t377, t378))) = some (r1, r2, r3) := H
    have A15 := Aside0.mk A150; clear A150
    by_cases c16 : t376 = true
    ·subst c16
     have H1 : (spec_DrawAreTools_in.l1 k1 x4_1 x5_1 l0 t377 t378) = some (r1, r2, r3) := by rw [if_pos rfl] at H; exact H
     clear H; have H := H1; clear H1
     have H' := Aside0.mk H
     clear H
     go_wp2_with (first | ((with_reducible refine gate_callee (f := 85) rfl ?_); refine goesL_ (some 33) rfl rfl Try.func85 (by kernel_rfl) rfl #[.pointer (some ⟨w.heap.size, 0, none⟩), .int .i64 24] rfl gl_ ?_; (with_reducible refine (spec_l1Cur_one.calls w.heap.size l0 x1001_1 x1002_1 24 true t377 t378 w _ ?side1 ?side2 A15.out).mono ?_); (case side1 => repeat (first | (with_reducible first | exact HI0.out | apply IsS101.alloc | apply IsS101.drewN | apply IsS101.drew | apply IsS101.set_1 | apply IsS101.set_2) | exact HI0.out)); (case side2 => repeat (first | (with_reducible first | exact HB.out | apply below_alloc | apply pw_below_drewN | apply below_drew1 | refine below_set ?_ (IsS101.ge HI0.out)) | exact HB.out)); rintro e w17 ⟨rfl, hi, hb, hk⟩; refine ⟨_, rfl, ?_⟩; have n0_ := Aside0.mk (Kd.R_mono (Kd.R_keep (IsS101.apart (show IsS101 w _ w.heap.size l0 x1001_1 x1002_1 from by repeat (first | (with_reducible first | exact HI0.out | apply IsS101.alloc | apply IsS101.drewN | apply IsS101.drew | apply IsS101.set_1 | apply IsS101.set_2) | exact HI0.out)) (kr_ HO_4) (by decide)) hk (fun _ h => h.2)) (fun _ h => h.1)); have n1_ := Aside0.mk (KeepBut.trans (by repeat (first | (with_reducible first | exact HK.out | apply KeepBut.set_ | apply keep_drewN | apply keep_drew | apply keep_alloc) | exact HK.out)) hk (.inl rfl)); have n2_ := Aside0.mk (hb); have n3_ := Aside0.mk (hi); clear HO_4; clear HK; clear HB; clear HI0; have HO_4 := n0_; have HK := n1_; have HB := n2_; have HI0 := n3_; clear n0_ n1_ n2_ n3_; (try clear hb); (try clear hk); (try clear hi)))
     (try simp only [Act.put, zA, zB, zC])
     go_loopg [4, 5] k1 (fun kq v4 v5 w' => ∃ (x4_2 : List (S44)) (x5_2 : Int) (x1001_2 : Int) (x1002_2 : Int), v5 = .int .i64 x5_2 ∧ Aside0 (spec_DrawAreTools_in.l1 kq x4_2 x5_2 l0 x1001_2 x1002_2 = some (r1, r2, r3)) ∧ Aside0 (kq ≤ k1) ∧ Aside0 (Kd.R k44 44 w' (w.alloc (.cells #[.slice A0 l0.length c0, .int .i64 0, .int .u64 0] 101)).heap.size (fun _ => True) v4 x4_2) ∧ Aside0 (IsS101 w w' w.heap.size l0 x1001_2 x1002_2) ∧ Aside0 (KeepBut (w.alloc (.cells #[.slice A0 l0.length c0, .int .i64 0, .int .u64 0] 101)) w' w.heap.size none) ∧ Aside0 (Below w.heap.size w w'))
     case atStart => exact ⟨(x4_1), (x5_1), (t377), (t378), (by first | rfl | (simp; done) | (simp [*]; done)), H', ⟨Nat.le_refl _⟩, ⟨by (with_reducible repeat (first | apply Kd.R_alloc | apply Kd.R_drewN | apply Kd.R_drew)); exact HO_4.out⟩, ⟨by repeat (first | (with_reducible first | exact HI0.out | apply IsS101.alloc | apply IsS101.drewN | apply IsS101.drew | apply IsS101.set_1 | apply IsS101.set_2) | exact HI0.out)⟩, ⟨by repeat (first | (with_reducible first | exact HK.out | apply KeepBut.set_ | apply keep_drewN | apply keep_drew | apply keep_alloc) | exact HK.out)⟩, ⟨by repeat (first | (with_reducible first | exact HB.out | apply below_alloc | apply pw_below_drewN | apply below_drew1 | refine below_set ?_ (IsS101.ge HI0.out)) | exact HB.out)⟩⟩
     case round =>
      clear H'
      (try clear p2); (try clear c6); (try clear c6b0); (try clear c10); (try clear c16); (try clear p2); obtain ⟨x4_2, x5_2, x1001_2, x1002_2, rfl, HA, HK2, HO_4, HI0, HK, HB⟩ := hrel
      cases gk with
      | zero => exact absurd HA.out (by simp [spec_DrawAreTools_in.l1])
      | succ k2 =>
       have H := HA.out; clear HA
       simp only [spec_DrawAreTools_in.l1] at H
       replace H := Option.bind_eq_some_iff.mp H; obtain ⟨⟨t379, t380, t381⟩, A180, H⟩ := H
       replace H : (if (x4_2.length : Int) < (wrap64 (8 + t379)) then (if x4_2.length < 4398046511104 then (spec_DrawAreTools_in.l1 k2 (x4_2 ++ [(⟨wrap64 (x5_2 + 1), 0, 0, 1000⟩ : S44)]) (wrap64 (x5_2 + 1)) l0 t380 t381) else (none)) else (some (x4_2, t380, t381))) = some (r1, r2, r3) := H
       have A18 := Aside0.mk A180; clear A180
       by_cases c19 : (x4_2.length : Int) < (wrap64 (8 + t379))
       ·rw [if_pos c19] at H
        have c19b0 : decide ((x4_2.length : Int) < (wrap64 (8 + t379))) = true := decide_eq_true c19
        clear c19
        by_cases c20 : x4_2.length < 4398046511104
        ·rw [if_pos c20] at H
         have LMc20 := Aside0.mk c20; clear c20
         obtain ⟨y382, hy382⟩ : ∃ y_ : List (S44), y_ = (x4_2 ++ [(⟨wrap64 (x5_2 + 1), 0, 0, 1000⟩ : S44)]) := ⟨_, rfl⟩
         replace H : (spec_DrawAreTools_in.l1 k2 y382 (wrap64 (x5_2 + 1)) l0 t380 t381) = some (r1, r2, r3) := by first | (rw [hy382]; with_reducible exact H) | (have H2_ := (Option.bind_some _ _).symm.trans H; rw [hy382]; with_reducible exact H2_) | (have H2_ := (Option.bind_some _ _).symm.trans H; with_reducible exact H2_) | with_reducible exact H | (rw [hy382]; exact H) | exact H
         have Ny382 := Aside0.mk hy382; clear hy382
         have H' := Aside0.mk H
         clear H
         obtain ⟨Ao21, co21, eo21⟩ := Kd.R_slice HO_4.out
         subst eo21
         go_wp2_with (first | ((with_reducible refine gate_callee (f := 84) rfl ?_); refine goesL_ (some 37) rfl rfl Try.func84 (by kernel_rfl) rfl #[.pointer (some ⟨w.heap.size, 0, none⟩), .int .i64 2] rfl gl_ ?_; (with_reducible refine (spec_l1Cur_pick.calls w.heap.size l0 x1001_2 x1002_2 2 t379 t380 t381 w _ ?side1 ?side2 A18.out).mono ?_); (case side1 => repeat (first | (with_reducible first | exact HI0.out | apply IsS101.alloc | apply IsS101.drewN | apply IsS101.drew | apply IsS101.set_1 | apply IsS101.set_2) | exact HI0.out)); (case side2 => repeat (first | (with_reducible first | exact HB.out | apply below_alloc | apply pw_below_drewN | apply below_drew1 | refine below_set ?_ (IsS101.ge HI0.out)) | exact HB.out)); rintro e w22 ⟨rfl, hi, hb, hk⟩; refine ⟨_, rfl, ?_⟩; have n0_ := Aside0.mk (Kd.R_mono (Kd.R_keep (IsS101.apart (show IsS101 w _ w.heap.size l0 x1001_2 x1002_2 from by repeat (first | (with_reducible first | exact HI0.out | apply IsS101.alloc | apply IsS101.drewN | apply IsS101.drew | apply IsS101.set_1 | apply IsS101.set_2) | exact HI0.out)) (kr_ HO_4) (by decide)) hk (fun _ h => h.2)) (fun _ h => h.1)); have n1_ := Aside0.mk (KeepBut.trans (by repeat (first | (with_reducible first | exact HK.out | apply KeepBut.set_ | apply keep_drewN | apply keep_drew | apply keep_alloc) | exact HK.out)) hk (.inl rfl)); have n2_ := Aside0.mk (hb); have n3_ := Aside0.mk (hi); clear HO_4; clear HK; clear HB; clear HI0; have HO_4 := n0_; have HK := n1_; have HB := n2_; have HI0 := n3_; clear n0_ n1_ n2_ n3_; (try clear hb); (try clear hk); (try clear hi)) | ((with_reducible refine gate_builtin (b := .append) (xs := #[.tmp 42, .tmp 45]) rfl ?_); at_builtin; refine Kd.R_append k44 (w.alloc (.cells #[.slice A0 l0.length c0, .int .i64 0, .int .u64 0] 101)).heap.size rfl (.tmp 42) (.tmp 45) 54 44 (.agg #[(.int .i64 0), (.int .i64 0), (.int .i64 0), (.int .i64 0)]) 32 rfl Try.underlying54 info44 rfl (by decide) (by omega) (.slice Ao21 x4_2.length co21) x4_2 (⟨wrap64 (x5_2 + 1), 0, 0, 1000⟩ : S44) [.int .i64 (wrap64 (x5_2 + 1)), .int .i64 0, .int .i64 0, .int .i64 1000] (fun _ => True) (fun _ => False) rfl rfl ?aP (fun _ hk => hk.elim) ?aF ?aO (Below.refl _ _) ?aS ?aL ?_; (case aP => exact k44_mkM _ _ _ (⟨wrap64 (x5_2 + 1), 0, 0, 1000⟩ : S44)); (case aF => exact (fun _ _ => trivial)); (case aO => exact (kr_ HO_4)); (case aS => exact (keep_size (w := (w.alloc (.cells #[.slice A0 l0.length c0, .int .i64 0, .int .u64 0] 101))) (g := w.heap.size) (row := none) (by repeat (first | (with_reducible first | exact HK.out | apply KeepBut.set_ | apply keep_drewN | apply keep_drew | apply keep_alloc) | exact HK.out)))); (case aL => have := LMc20.out; omega); intro v383 w23 ho hb hg hat; rw [← Ny382.out] at ho; have n0_ := Aside0.mk (IsS101.grown (by repeat (first | (with_reducible first | exact HI0.out | apply IsS101.alloc | apply IsS101.drewN | apply IsS101.drew | apply IsS101.set_1 | apply IsS101.set_2) | exact HI0.out)) hg (IsS101.own_ne HI0.out HO_4.out (by decide))); have n1_ := Aside0.mk (below_weaken (by repeat (first | (with_reducible first | exact HB.out | apply below_alloc | apply pw_below_drewN | apply below_drew1 | refine below_set ?_ (IsS101.ge HI0.out)) | exact HB.out)) HL.out hb); have n2_ := Aside0.mk (KeepBut.trans (by repeat (first | (with_reducible first | exact HK.out | apply KeepBut.set_ | apply keep_drewN | apply keep_drew | apply keep_alloc) | exact HK.out)) (KeepBut.of_grown hg w.heap.size) (Kd.R_base2 HO_4.out)); have n3_ := Aside0.mk (ho); clear HI0; clear HB; clear HK; clear HO_4; have HI0 := n0_; have HB := n1_; have HK := n2_; have HO384 := n3_; clear n0_ n1_ n2_ n3_; clear ho hb hg hat))
         go_roundg k2
         case measure => have := HK1.out; have := HK2.out; omega
         case rel => exact ⟨(y382), (wrap64 (x5_2 + 1)), (t380), (t381), (by first | rfl | (simp; done) | (simp [*]; done)), H', ⟨by have := HK1.out; have := HK2.out; omega⟩, ⟨by (with_reducible repeat (first | apply Kd.R_alloc | apply Kd.R_drewN | apply Kd.R_drew)); exact HO384.out⟩, ⟨by repeat (first | (with_reducible first | exact HI0.out | apply IsS101.alloc | apply IsS101.drewN | apply IsS101.drew | apply IsS101.set_1 | apply IsS101.set_2) | exact HI0.out)⟩, ⟨by repeat (first | (with_reducible first | exact HK.out | apply KeepBut.set_ | apply keep_drewN | apply keep_drew | apply keep_alloc) | exact HK.out)⟩, ⟨by repeat (first | (with_reducible first | exact HB.out | apply below_alloc | apply pw_below_drewN | apply below_drew1 | refine below_set ?_ (IsS101.ge HI0.out)) | exact HB.out)⟩⟩
        ·rw [if_neg c20] at H
         exact absurd H (by simp)
       ·rw [if_neg c19] at H
        have c19b0 : decide ((x4_2.length : Int) < (wrap64 (8 + t379))) = false := decide_eq_false c19
        clear c19
        simp only [Option.some.injEq, Prod.mk.injEq] at H
        obtain ⟨rfl, rfl, rfl⟩ := H
        obtain ⟨Ao24, co24, eo24⟩ := Kd.R_slice HO_4.out
        subst eo24
        go_wp2_with (first | ((with_reducible refine gate_callee (f := 84) rfl ?_); refine goesL_ (some 37) rfl rfl Try.func84 (by kernel_rfl) rfl #[.pointer (some ⟨w.heap.size, 0, none⟩), .int .i64 2] rfl gl_ ?_; (with_reducible refine (spec_l1Cur_pick.calls w.heap.size l0 x1001_2 x1002_2 2 t379 t380 t381 w _ ?side1 ?side2 A18.out).mono ?_); (case side1 => repeat (first | (with_reducible first | exact HI0.out | apply IsS101.alloc | apply IsS101.drewN | apply IsS101.drew | apply IsS101.set_1 | apply IsS101.set_2) | exact HI0.out)); (case side2 => repeat (first | (with_reducible first | exact HB.out | apply below_alloc | apply pw_below_drewN | apply below_drew1 | refine below_set ?_ (IsS101.ge HI0.out)) | exact HB.out)); rintro e w25 ⟨rfl, hi, hb, hk⟩; refine ⟨_, rfl, ?_⟩; have n0_ := Aside0.mk (Kd.R_mono (Kd.R_keep (IsS101.apart (show IsS101 w _ w.heap.size l0 x1001_2 x1002_2 from by repeat (first | (with_reducible first | exact HI0.out | apply IsS101.alloc | apply IsS101.drewN | apply IsS101.drew | apply IsS101.set_1 | apply IsS101.set_2) | exact HI0.out)) (kr_ HO_4) (by decide)) hk (fun _ h => h.2)) (fun _ h => h.1)); have n1_ := Aside0.mk (KeepBut.trans (by repeat (first | (with_reducible first | exact HK.out | apply KeepBut.set_ | apply keep_drewN | apply keep_drew | apply keep_alloc) | exact HK.out)) hk (.inl rfl)); have n2_ := Aside0.mk (hb); have n3_ := Aside0.mk (hi); clear HO_4; clear HK; clear HB; clear HI0; have HO_4 := n0_; have HK := n1_; have HB := n2_; have HI0 := n3_; clear n0_ n1_ n2_ n3_; (try clear hb); (try clear hk); (try clear hi)))
        go_ret
        exact ⟨_, by first | rfl | (simp <;> rfl) | (simp [*] <;> rfl), by (with_reducible repeat (first | apply Kd.R_alloc | apply Kd.R_drewN | apply Kd.R_drew)); exact HO_4.out, by repeat (first | (with_reducible first | exact HI0.out | apply IsS101.alloc | apply IsS101.drewN | apply IsS101.drew | apply IsS101.set_1 | apply IsS101.set_2) | exact HI0.out), by repeat (first | (with_reducible first | exact HB.out | apply below_alloc | apply pw_below_drewN | apply below_drew1 | refine below_set ?_ (IsS101.ge HI0.out)) | exact HB.out), by repeat (first | (with_reducible first | exact HK.out | apply KeepBut.set_ | apply keep_drewN | apply keep_drew | apply keep_alloc) | exact HK.out)⟩
    ·replace c16 := Bool.eq_false_iff.mpr c16
     subst c16
     have H1 : (some (x4_1, t377, t378)) = some (r1, r2, r3) := by rw [if_neg (show ¬ (false = true) by decide)] at H; exact H
     clear H; have H := H1; clear H1
     simp only [Option.some.injEq, Prod.mk.injEq] at H
     obtain ⟨rfl, rfl, rfl⟩ := H
     go_wp2_with (first | ((with_reducible refine gate_callee (f := 85) rfl ?_); refine goesL_ (some 33) rfl rfl Try.func85 (by kernel_rfl) rfl #[.pointer (some ⟨w.heap.size, 0, none⟩), .int .i64 24] rfl gl_ ?_; (with_reducible refine (spec_l1Cur_one.calls w.heap.size l0 x1001_1 x1002_1 24 false t377 t378 w _ ?side1 ?side2 A15.out).mono ?_); (case side1 => repeat (first | (with_reducible first | exact HI0.out | apply IsS101.alloc | apply IsS101.drewN | apply IsS101.drew | apply IsS101.set_1 | apply IsS101.set_2) | exact HI0.out)); (case side2 => repeat (first | (with_reducible first | exact HB.out | apply below_alloc | apply pw_below_drewN | apply below_drew1 | refine below_set ?_ (IsS101.ge HI0.out)) | exact HB.out)); rintro e w26 ⟨rfl, hi, hb, hk⟩; refine ⟨_, rfl, ?_⟩; have n0_ := Aside0.mk (Kd.R_mono (Kd.R_keep (IsS101.apart (show IsS101 w _ w.heap.size l0 x1001_1 x1002_1 from by repeat (first | (with_reducible first | exact HI0.out | apply IsS101.alloc | apply IsS101.drewN | apply IsS101.drew | apply IsS101.set_1 | apply IsS101.set_2) | exact HI0.out)) (kr_ HO_4) (by decide)) hk (fun _ h => h.2)) (fun _ h => h.1)); have n1_ := Aside0.mk (KeepBut.trans (by repeat (first | (with_reducible first | exact HK.out | apply KeepBut.set_ | apply keep_drewN | apply keep_drew | apply keep_alloc) | exact HK.out)) hk (.inl rfl)); have n2_ := Aside0.mk (hb); have n3_ := Aside0.mk (hi); clear HO_4; clear HK; clear HB; clear HI0; have HO_4 := n0_; have HK := n1_; have HB := n2_; have HI0 := n3_; clear n0_ n1_ n2_ n3_; (try clear hb); (try clear hk); (try clear hi)))
     go_ret
     exact ⟨_, by first | rfl | (simp <;> rfl) | (simp [*] <;> rfl), by (with_reducible repeat (first | apply Kd.R_alloc | apply Kd.R_drewN | apply Kd.R_drew)); exact HO_4.out, by repeat (first | (with_reducible first | exact HI0.out | apply IsS101.alloc | apply IsS101.drewN | apply IsS101.drew | apply IsS101.set_1 | apply IsS101.set_2) | exact HI0.out), by repeat (first | (with_reducible first | exact HB.out | apply below_alloc | apply pw_below_drewN | apply below_drew1 | refine below_set ?_ (IsS101.ge HI0.out)) | exact HB.out), by repeat (first | (with_reducible first | exact HK.out | apply KeepBut.set_ | apply keep_drewN | apply keep_drew | apply keep_alloc) | exact HK.out)⟩

/-! ### spec_DrawAreTools: function 114 -/
def spec_DrawAreTools.f (k : Nat) (l0 : List Int) : Option ((List (S44))) := (spec_DrawAreTools_in.f k l0 0 0).bind fun t => some t.1
theorem spec_DrawAreTools.mono : ∀ l0 k, LeO (spec_DrawAreTools.f k l0) (spec_DrawAreTools.f (k + 1) l0) := by
 intro l0 k
 unfold spec_DrawAreTools.f
 exact LeO.bind (spec_DrawAreTools_in.mono l0 0 0 k) (fun _ => LeO.refl _)
theorem spec_DrawAreTools.calls (k : Nat) (A0 : Option Addr) (c0 : Nat) (l0 : List Int) (r1 : List (S44)) (w : World) (hr0 : Kd.C (Kd.int .u8) w A0 l0.length l0) (hc0 : l0.length ≤ c0) (h : spec_DrawAreTools.f k l0 = some r1) :
  Calls Try.prog 114 #[.slice A0 l0.length c0] w fun e w' => ∃ v0_ : Value, e = .returned (v0_) ∧ Kd.R k44 44 w' w.heap.size (fun _ => True) v0_ r1 ∧ Below w.heap.size w w' := by
 unfold spec_DrawAreTools.f at h
 obtain ⟨⟨r1, r2, r3⟩, h1, h2⟩ := Option.bind_eq_some_iff.mp h
 simp only [Option.some.injEq, Prod.mk.injEq] at h2
 obtain rfl := h2
 refine (spec_DrawAreTools_in.calls k A0 c0 l0 r1 r2 r3 w hr0 hc0 h1).mono ?_
 rintro e w' ⟨v0_, he_, h1_, _, hb_, _⟩
 exact ⟨v0_, he_, Kd.R_lower h1_ (below_size (below_alloc (Below.refl _ w) _)), hb_⟩

/-! ### spec_DrawToolsOf: function 71 (by hand) -/
def spec_DrawToolsOf.f (k : Nat) (l0 : List Int) : Option (List S44 × Int) := (spec_DrawAreTools.f k l0).bind fun tl => (spec_l1Cur_pick.f l0 0 0 24).bind fun b => if 0 ≤ b.1 ∧ b.1 < 24 then (spec_l1Cur_among.f l0 b.2.1 b.2.2 (([(0), (1), (2), (-1), (3)] : List Int).take (3 + Int.tdiv b.1 11).toNat)).bind (fun v => some (tl, v.1)) else none
theorem spec_DrawToolsOf.mono : ∀ l0 k, LeO (spec_DrawToolsOf.f k l0) (spec_DrawToolsOf.f (k + 1) l0) := by
  intro l0 k
  unfold spec_DrawToolsOf.f
  exact LeO.bind (spec_DrawAreTools.mono l0 k) (fun _ => LeO.refl _)
set_option maxHeartbeats 8000000 in
set_option maxRecDepth 100000 in
theorem spec_DrawToolsOf.calls (k : Nat) (A0 : Option Addr) (c0 : Nat) (l0 : List Int) (r1 : List S44) (r2 : Int) (w : World) (hr0 : Kd.C (Kd.int .u8) w A0 l0.length l0) (hc0 : l0.length ≤ c0) (h : spec_DrawToolsOf.f k l0 = some (r1, r2)) :
    Calls Try.prog 71 #[.slice A0 l0.length c0] w fun e w' => ∃ v0_ : Value, e = .returned (.tuple #[v0_, .int .i64 r2]) ∧ Kd.R k44 44 w' w.heap.size (fun _ => True) v0_ r1 ∧ Below w.heap.size w w' := by
  obtain ⟨tl, A10, H⟩ := Option.bind_eq_some_iff.mp h
  clear h
  obtain ⟨⟨t1, t2, t3⟩, A30, H⟩ := Option.bind_eq_some_iff.mp H
  split at H
  case isFalse => cases H
  rename_i hb24
  obtain ⟨⟨v1, p2, p3⟩, HA0, H⟩ := Option.bind_eq_some_iff.mp H
  simp only [Option.some.injEq, Prod.mk.injEq] at H
  obtain ⟨rfl, rfl⟩ := H
  have hb24 : 0 ≤ t1 ∧ t1 < 24 := hb24
  have A1 := Aside0.mk A10
  have A3 := Aside0.mk A30
  have htd : Int.tdiv t1 11 = t1 / 11 := Int.tdiv_eq_ediv_of_nonneg hb24.1
  have HA : Aside0 (spec_l1Cur_among.f l0 t2 t3 (([(0), (1), (2), (-1), (3)] : List Int).take (3 + t1 / 11).toNat) = some (v1, p2, p3)) := ⟨by rw [← htd]; exact HA0⟩
  have hw1 : wrap64 (t1.tdiv 11) = t1 / 11 := by rw [htd]; unfold wrap64; omega
  have hw2 : wrap64 (3 + wrap64 (t1.tdiv 11)) = 3 + t1 / 11 := by rw [hw1]; unfold wrap64; omega
  have pa : (0 ≤ 3 + t1 / 11) = True := eq_true (by omega)
  have PB := Aside0.mk (show 3 + t1 / 11 ≤ 5 by omega)
  have HR0 := Aside0.mk hr0
  have hI : IsS101 w (w.alloc (.cells #[.slice A0 l0.length c0, .int .i64 0, .int .u64 0] 101)) w.heap.size l0 0 0 := ⟨A0, c0, heap_alloc_new w _, Nat.le_refl _, hr0⟩
  have hB : Below w.heap.size w (w.alloc (.cells #[.slice A0 l0.length c0, .int .i64 0, .int .u64 0] 101)) := below_alloc (Below.refl _ _) _
  have HC0 := Aside0.mk hc0
  have HI0 := Aside0.mk hI
  have HB := Aside0.mk hB
  clear htd hb24 A10 A30 HA0 hc0 hr0 hI hB
  go_enter Try.func71, Try.ntmps71
  go_wp2_with (first | ((with_reducible refine gate_dst (N := 13) rfl ?_); refine Kd.R_lit (Kd.int .i64) _ 3 ?hg (N := 13) ?hd (xs := ([(0), (1), (2), (-1), (3)] : List Int)) (inner := [.int .i64 (0), .int .i64 (1), .int .i64 (2), .int .i64 (-1), .int .i64 (3)]) (ok := fun _ => True) (okp := fun _ => True) ?hr ?hp (fun _ hk => hk) trivial (Below.refl _ _) (Nat.le_refl _) (by simp) ?_; (case hd => rfl); (case hg => rfl); (case hr => first | (go_simp; done) | (go_simp; rfl)); (case hp => exact (Reps.one (show Kd.M (Kd.int .i64) _ _ _ (0) [.int .i64 (0)] from rfl) (Reps.one (show Kd.M (Kd.int .i64) _ _ _ (1) [.int .i64 (1)] from rfl) (Reps.one (show Kd.M (Kd.int .i64) _ _ _ (2) [.int .i64 (2)] from rfl) (Reps.one (show Kd.M (Kd.int .i64) _ _ _ (-1) [.int .i64 (-1)] from rfl) (Reps.one (show Kd.M (Kd.int .i64) _ _ _ (3) [.int .i64 (3)] from rfl) (Reps.none _ _))))))); intro v234 w8 ho9 hb hg_ hnew_; clear hg_ hnew_; have n0_ := Aside0.mk (Kd.R_lower ho9 (below_size (by repeat (with_reducible first | exact HB.out | apply below_alloc | apply pw_below_drewN | apply below_drew1 | refine below_set ?_ (IsS101.ge HI0.out))))); have n1_ := Aside0.mk (IsS101.below (by repeat (first | (with_reducible first | exact HI0.out | apply IsS101.alloc | apply IsS101.drewN | apply IsS101.drew | apply IsS101.set_1 | apply IsS101.set_2) | exact HI0.out)) hb); have n4_ := Aside0.mk (below_step (by repeat (first | (with_reducible first | exact HB.out | apply below_alloc | apply pw_below_drewN | apply below_drew1 | refine below_set ?_ (IsS101.ge HI0.out)) | exact HB.out)) hb); clear HI0; clear HB; have HO235 := n0_; have HI0 := n1_; have HB := n4_; clear n0_ n1_ n4_; have nl_ := Aside0.mk (Kd.R_below (by (with_reducible repeat (first | apply Kd.R_alloc | apply Kd.R_drewN | apply Kd.R_drew)); exact HOL.out) hb); clear HOL; have HOL := nl_; clear nl_; clear hb ho9; obtain ⟨Ao10, co10, eo10⟩ := Kd.R_slice HO235.out; subst eo10; have hco := (Kd.R_reads' HO235.out).2.1; have hlen : (([(0), (1), (2), (-1), (3)] : List Int)).length = 5 := rfl; rw [hlen] at hco; have pb : (3 + t1 / 11 ≤ (co10 : Int)) = True := eq_true (by have := PB.out; omega); have HCO := Aside0.mk hco; clear hco hlen) | ((with_reducible refine gate_callee (f := 84) rfl ?_); refine goesL_ (some 15) rfl rfl Try.func84 (by kernel_rfl) rfl #[.pointer (some ⟨w.heap.size, 0, none⟩), .int .i64 24] rfl (by (try simp only [List.map_toArray, List.map_cons, List.map_nil]); first | done | rfl) ?_; (with_reducible refine (spec_l1Cur_pick.calls w.heap.size l0 0 0 24 t1 t2 t3 w _ ?side1 ?side2 A3.out).mono ?_); (case side1 => repeat (first | (with_reducible first | exact HI0.out | apply IsS101.alloc | apply IsS101.drewN | apply IsS101.drew | apply IsS101.set_1 | apply IsS101.set_2) | exact HI0.out)); (case side2 => repeat (first | (with_reducible first | exact HB.out | apply below_alloc | apply pw_below_drewN | apply below_drew1 | refine below_set ?_ (IsS101.ge HI0.out)) | exact HB.out)); rintro e w9 ⟨rfl, hi, hb, hk⟩; refine ⟨_, rfl, ?_⟩; have nl_ := Aside0.mk (Kd.R_mono (Kd.R_keep (IsS101.apart (show IsS101 w _ w.heap.size l0 0 0 from by repeat (first | (with_reducible first | exact HI0.out | apply IsS101.alloc | apply IsS101.drewN | apply IsS101.drew | apply IsS101.set_1 | apply IsS101.set_2) | exact HI0.out)) (by (with_reducible repeat (first | apply Kd.R_alloc | apply Kd.R_drewN | apply Kd.R_drew)); exact HOL.out) (by decide)) hk (fun _ h => h.2)) (fun _ h => h.1)); clear HOL; have HOL := nl_; clear nl_; have n1_ := Aside0.mk (Kd.R_mono (Kd.R_keep (IsS101.apart (show IsS101 w _ w.heap.size l0 0 0 from by repeat (first | (with_reducible first | exact HI0.out | apply IsS101.alloc | apply IsS101.drewN | apply IsS101.drew | apply IsS101.set_1 | apply IsS101.set_2) | exact HI0.out)) (by (with_reducible repeat (first | apply Kd.R_alloc | apply Kd.R_drewN | apply Kd.R_drew)); exact HO235.out) (by decide)) hk (fun _ h => h.2)) (fun _ h => h.1)); have n3_ := Aside0.mk (hb); have n4_ := Aside0.mk (hi); clear HO235 HB HI0; have HO235 := n1_; have HB := n3_; have HI0 := n4_; clear n1_ n3_ n4_ hb hk hi) | (go_at_call 114; (with_reducible refine (spec_DrawAreTools.calls k _ _ l0 tl _ ?side1 ?side2 A1.out).mono ?_); (case side1 => repeat (first | exact (Kd.C_below HR0.out HB.out) | (with_reducible refine Kd.C_alloc ?_ _) | (with_reducible refine Kd.C_drewN ?_ _) | (with_reducible refine Kd.C_drew ?_))); (case side2 => exact HC0.out); rintro e w4 ⟨vL, rfl, ho0, hb⟩; have n1_ := Aside0.mk (IsS101.below HI0.out hb); have n3_ := Aside0.mk (below_step HB.out hb); have HOL := Aside0.mk (Kd.R_lower ho0 (below_size HB.out)); clear HI0 HB; have HI0 := n1_; have HB := n3_; clear n1_ n3_ hb ho0) | (go_at_call 115; have hL_ : (([(0), (1), (2), (-1), (3)] : List Int).take (3 + t1 / 11).toNat).length = (3 + t1 / 11).toNat := (by have := PB.out; rw [List.length_take]; show min _ 5 = _; omega); have hc_ := Kd.C_take (Kd.R_reads' HO235.out).2.2 (show (3 + t1 / 11).toNat ≤ ([(0), (1), (2), (-1), (3)] : List Int).length by have := PB.out; show _ ≤ 5; omega); have hcall := spec_l1Cur_among.calls w.heap.size l0 t2 t3 Ao10 co10 (([(0), (1), (2), (-1), (3)] : List Int).take (3 + t1 / 11).toNat) v1 p2 p3 w _ HI0.out HB.out hc_ (by rw [hL_]; have := PB.out; have := HCO.out; omega) (fun ad ha _ => far_slice (IsS101.own_ne HI0.out HO235.out (by decide)) ad ha (by decide)) HA.out; rw [hL_] at hcall; refine hcall.mono ?_; clear hcall hc_ hL_; rintro e w11 ⟨rfl, hi, hb, hk⟩; have nl_ := Aside0.mk (Kd.R_mono (Kd.R_keep (IsS101.apart (show IsS101 w _ w.heap.size l0 t2 t3 from by repeat (first | (with_reducible first | exact HI0.out | apply IsS101.alloc | apply IsS101.drewN | apply IsS101.drew | apply IsS101.set_1 | apply IsS101.set_2) | exact HI0.out)) (by (with_reducible repeat (first | apply Kd.R_alloc | apply Kd.R_drewN | apply Kd.R_drew)); exact HOL.out) (by decide)) hk (fun _ h => h.2)) (fun _ h => h.1)); clear HOL; have HOL := nl_; clear nl_; have n3_ := Aside0.mk hb; have n4_ := Aside0.mk hi; clear HO235 HB HI0; have HB := n3_; have HI0 := n4_; clear n3_ n4_ hb hk hi))
  go_ret2
  exact ⟨_, rfl, HOL.out, HB.out⟩

/-! ### laws_rInts: function 72 -/
def laws_rInts.l0 : Nat → List Int → List Int → Int → Option (Bool)
 | 0, _, _, _ => none
 | k + 1, x0, x1, x5 => if x5 < (x0.length : Int) then (if 0 ≤ x5 then (if x5 < (x1.length : Int) then (if (rd x0 x5) = (rd x1 x5) then (laws_rInts.l0 k x0 x1 (wrap64 (x5 + 1))) else (some false)) else (none)) else (none)) else (some true)
def laws_rInts.f (k : Nat) (l0 : List Int) (l1 : List Int) : Option (Bool) := if (l0.length : Int) = (l1.length : Int) then (laws_rInts.l0 k l0 l1 0) else (some false)
theorem laws_rInts.mono_l : ∀ k, (∀ y0 y1 y2, LeO (laws_rInts.l0 k y0 y1 y2) (laws_rInts.l0 (k + 1) y0 y1 y2))
 | 0 => fun _ _ _ r h => by simp [laws_rInts.l0] at h
 | k + 1 => by
  have ih0 := laws_rInts.mono_l k
  ·intro y0 y1 y2
   unfold laws_rInts.l0
   repeat' first
   | (with_reducible exact ih0 _ _ _)
   | (with_reducible exact LeO.refl _)
   | (with_reducible exact LeO.none _)
   | (with_reducible refine LeO.ite ?_ ?_)
   | (with_reducible refine LeO.bind ?_ (fun _ => ?_))
   | exact ih0 _ _ _
   | exact LeO.none _
   | refine LeO.ite ?_ ?_
   | refine LeO.bind ?_ (fun _ => ?_)
theorem laws_rInts.mono : ∀ a0 a1 k, LeO (laws_rInts.f k a0 a1) (laws_rInts.f (k + 1) a0 a1) := by
 intro a0 a1 k
 have ih0 := laws_rInts.mono_l k
 unfold laws_rInts.f
 repeat' first
   | (with_reducible exact ih0 _ _ _)
   | (with_reducible exact LeO.refl _)
   | (with_reducible exact LeO.none _)
   | (with_reducible refine LeO.ite ?_ ?_)
   | (with_reducible refine LeO.bind ?_ (fun _ => ?_))
   | exact ih0 _ _ _
   | exact LeO.none _
   | refine LeO.ite ?_ ?_
   | refine LeO.bind ?_ (fun _ => ?_)
set_option maxHeartbeats 8000000 in
set_option maxRecDepth 100000 in
theorem laws_rInts.calls (k : Nat) (A0 : Option Addr) (c0 : Nat) (l0 : List Int) (A1 : Option Addr) (c1 : Nat) (l1 : List Int) (r : Bool) (w : World) (hr0 : Kd.C (Kd.int .i64) w A0 l0.length l0) (hc0 : l0.length ≤ c0) (hr1 : Kd.C (Kd.int .i64) w A1 l1.length l1) (hc1 : l1.length ≤ c1) (h : laws_rInts.f k l0 l1 = some r) :
  Calls Try.prog 72 #[.slice A0 l0.length c0, .slice A1 l1.length c1] w fun e w' => e = .returned (.bool r) ∧ Drawn0 w w' := by
 have HR0 := Aside0.mk hr0; have HC0 := Aside0.mk hc0; clear hr0 hc0; have HR1 := Aside0.mk hr1; have HC1 := Aside0.mk hc1; clear hr1 hc1
 have H : (if (l0.length : Int) = (l1.length : Int) then (laws_rInts.l0 k l0 l1 0) else (some false)) = some r := h
 clear h
 by_cases c3 : (l0.length : Int) = (l1.length : Int)
 ·rw [if_pos c3] at H
  have c3b0 : ((l0.length : Int) == (l1.length : Int)) = true := beq_iff_eq.mpr c3
  have c3b1 : ((l0.length : Int) != (l1.length : Int)) = false := bne_eq_false_iff_eq.mpr c3
  have c3b2 : (l0.length == l1.length) = true := by first | simpa using c3 | (simp at c3 ⊢; omega)
  clear c3
  have H' := Aside0.mk H
  clear H
  go_enter Try.func72, Try.ntmps72
  go_wp2
  repeat (go_quiet (fail); try go_wp2)
  go_loopg [5] k (fun kq v5 w' => ∃ (x5_1 : Int), v5 = .int .i64 x5_1 ∧ Aside0 (laws_rInts.l0 kq l0 l1 x5_1 = some r) ∧ Aside0 (kq ≤ k) ∧ Drawn0 w w')
  case atStart => exact ⟨(0), (by first | rfl | (simp; done) | (simp [*]; done)), H', ⟨Nat.le_refl _⟩, by repeat (first | exact Drawn0.refl _ | apply Drawn0.step)⟩
  case round =>
   clear H'
   (try clear p2); (try clear c3); (try clear c3b0); (try clear c3b1); (try clear c3b2); obtain ⟨x5_1, rfl, HA, HK1, ⟨m1, rfl⟩⟩ := hrel
   cases gk with
   | zero => exact absurd HA.out (by simp [laws_rInts.l0])
   | succ k1 =>
    have H := HA.out; clear HA
    simp only [laws_rInts.l0] at H
    by_cases c4 : x5_1 < (l0.length : Int)
    ·rw [if_pos c4] at H
     have c4b0 : decide (x5_1 < (l0.length : Int)) = true := decide_eq_true c4
     clear c4
     by_cases c5 : 0 ≤ x5_1
     ·rw [if_pos c5] at H
      have c5b0 : decide (0 ≤ x5_1) = true := decide_eq_true c5
      clear c5
      by_cases c6 : x5_1 < (l1.length : Int)
      ·rw [if_pos c6] at H
       have c6b0 : decide (x5_1 < (l1.length : Int)) = true := decide_eq_true c6
       clear c6
       by_cases c7 : (rd l0 x5_1) = (rd l1 x5_1)
       ·rw [if_pos c7] at H
        have c7b0 : ((rd l0 x5_1) == (rd l1 x5_1)) = true := beq_iff_eq.mpr c7
        have c7b1 : ((rd l0 x5_1) != (rd l1 x5_1)) = false := bne_eq_false_iff_eq.mpr c7
        clear c7
        have H' := Aside0.mk H
        clear H
        have p385 : 0 ≤ (x5_1 : Int) := of_decide_eq_true (by first | (with_reducible assumption) | assumption)
        have q385 : x5_1 < (l0.length : Int) := of_decide_eq_true (by first | (with_reducible assumption) | assumption)
        obtain ⟨ad385, e385, hx385_0⟩ := Kd.at_int HR0.out x5_1 p385 q385
        cases e385
        replace p385 := eq_true p385
        replace q385 := eq_true q385
        have p386 : 0 ≤ (x5_1 : Int) := of_decide_eq_true (by first | (with_reducible assumption) | assumption)
        have q386 : x5_1 < (l1.length : Int) := of_decide_eq_true (by first | (with_reducible assumption) | assumption)
        obtain ⟨ad386, e386, hx386_0⟩ := Kd.at_int HR1.out x5_1 p386 q386
        cases e386
        replace p386 := eq_true p386
        replace q386 := eq_true q386
        go_wp2
        repeat (go_quiet (fail); try go_wp2)
        go_roundg k1
        case measure => have := HK1.out; omega
        case rel => exact ⟨(wrap64 (x5_1 + 1)), (by first | rfl | (simp; done) | (simp [*]; done)), H', ⟨by have := HK1.out; omega⟩, by repeat (first | exact Drawn0.refl _ | apply Drawn0.step)⟩
       ·rw [if_neg c7] at H
        have c7b0 : ((rd l0 x5_1) == (rd l1 x5_1)) = false := beq_eq_false_iff_ne.mpr c7
        have c7b1 : ((rd l0 x5_1) != (rd l1 x5_1)) = true := bne_iff_ne.mpr c7
        obtain rfl := Option.some.inj H
        have p385 : 0 ≤ (x5_1 : Int) := of_decide_eq_true (by first | (with_reducible assumption) | assumption)
        have q385 : x5_1 < (l0.length : Int) := of_decide_eq_true (by first | (with_reducible assumption) | assumption)
        obtain ⟨ad385, e385, hx385_0⟩ := Kd.at_int HR0.out x5_1 p385 q385
        cases e385
        replace p385 := eq_true p385
        replace q385 := eq_true q385
        have p386 : 0 ≤ (x5_1 : Int) := of_decide_eq_true (by first | (with_reducible assumption) | assumption)
        have q386 : x5_1 < (l1.length : Int) := of_decide_eq_true (by first | (with_reducible assumption) | assumption)
        obtain ⟨ad386, e386, hx386_0⟩ := Kd.at_int HR1.out x5_1 p386 q386
        cases e386
        replace p386 := eq_true p386
        replace q386 := eq_true q386
        go_wp2
        repeat (go_quiet (fail); try go_wp2)
        go_ret
        exact ⟨by first | rfl | (simp; done) | (simp [*]; done), by repeat (first | exact Drawn0.refl _ | apply Drawn0.step)⟩
      ·rw [if_neg c6] at H
       exact absurd H (by simp)
     ·rw [if_neg c5] at H
      exact absurd H (by simp)
    ·rw [if_neg c4] at H
     have c4b0 : decide (x5_1 < (l0.length : Int)) = false := decide_eq_false c4
     clear c4
     obtain rfl := Option.some.inj H
     go_wp2
     repeat (go_quiet (fail); try go_wp2)
     go_ret
     exact ⟨by first | rfl | (simp; done) | (simp [*]; done), by repeat (first | exact Drawn0.refl _ | apply Drawn0.step)⟩
 ·rw [if_neg c3] at H
  have c3b0 : ((l0.length : Int) == (l1.length : Int)) = false := beq_eq_false_iff_ne.mpr c3
  have c3b1 : ((l0.length : Int) != (l1.length : Int)) = true := bne_iff_ne.mpr c3
  have c3b2 : (l0.length == l1.length) = false := by first | simpa using c3 | (simp at c3 ⊢; omega)
  obtain rfl := Option.some.inj H
  go_enter Try.func72, Try.ntmps72
  go_wp2
  repeat (go_quiet (fail); try go_wp2)
  go_ret
  exact ⟨by first | rfl | (simp; done) | (simp [*]; done), by repeat (first | exact Drawn0.refl _ | apply Drawn0.step)⟩

/-! ### spec_DrawCorrectReading_in: function 62 -/
def spec_DrawCorrectReading_in.f (k : Nat) (s0_0 : List Int) (s0_1 : Int) (s0_2 : Int) : Option (Int × Int × Int × Int × Int × Int × Int) := (spec_l1Cur_tool.f k s0_0 s0_1 s0_2 1).bind fun bt388 => ((spec_l1Cur_reading3.f s0_0 bt388.2.2.2.2.1 bt388.2.2.2.2.2 bt388.2.1).bind fun bt395 => (some (bt388.1, bt388.2.1, bt388.2.2.1, bt388.2.2.2.1, bt395.1, bt395.2.1, bt395.2.2)))
theorem spec_DrawCorrectReading_in.mono : ∀ a0 a1 a2 k, LeO (spec_DrawCorrectReading_in.f k a0 a1 a2) (spec_DrawCorrectReading_in.f (k + 1) a0 a1 a2) := by
 intro a0 a1 a2 k
 unfold spec_DrawCorrectReading_in.f
 repeat' first
   | (with_reducible exact spec_l1Cur_tool.mono _ _ _ _ _)
   | (with_reducible exact LeO.refl _)
   | (with_reducible exact LeO.none _)
   | (with_reducible refine LeO.ite ?_ ?_)
   | (with_reducible refine LeO.bind ?_ (fun _ => ?_))
   | exact spec_l1Cur_tool.mono _ _ _ _ _
   | exact LeO.none _
   | refine LeO.ite ?_ ?_
   | refine LeO.bind ?_ (fun _ => ?_)
set_option maxHeartbeats 8000000 in
set_option maxRecDepth 100000 in
theorem spec_DrawCorrectReading_in.calls (k : Nat) (A0 : Option Addr) (c0 : Nat) (l0 : List Int) (r1 : Int) (r2 : Int) (r3 : Int) (r4 : Int) (r5 : Int) (r6 : Int) (r7 : Int) (w : World) (hr0 : Kd.C (Kd.int .u8) w A0 l0.length l0) (hc0 : l0.length ≤ c0) (h : spec_DrawCorrectReading_in.f k l0 0 0 = some (r1, r2, r3, r4, r5, r6, r7)) :
  Calls Try.prog 62 #[.slice A0 l0.length c0] w fun e w' => e = .returned (.tuple #[.agg #[.int .i64 r1, .int .i64 r2, .int .i64 r3, .int .i64 r4], .int .i64 r5]) ∧ ∃ gst : Nat, IsS101 w w' gst l0 r6 r7 ∧ Below w.heap.size w w' ∧ KeepBut w w' gst none := by
 have hu44 := Try.underlying44
 have HB := Aside0.mk (Below.refl w.heap.size w)
 have H : ((spec_l1Cur_tool.f k l0 0 0 1).bind fun bt388 => ((spec_l1Cur_reading3.f l0 bt388.2.2.2.2.1 bt388.2.2.2.2.2 bt388.2.1).bind fun bt395 => (some (bt388.1, bt388.2.1, bt388.2.2.1, bt388.2.2.2.1, bt395.1, bt395.2.1, bt395.2.2)))) = some (r1, r2, r3, r4, r5, r6, r7) := h
 clear h; replace H := Option.bind_eq_some_iff.mp H; obtain ⟨⟨t388, t389, t390, t391, t392, t393⟩, A20, H⟩ := H
 replace H : ((spec_l1Cur_reading3.f l0 t392 t393 t389).bind fun bt395 => (some (t388, t389, t390, t391, bt395.1, bt395.2.1, bt395.2.2))) = some (r1, r2, r3, r4, r5, r6, r7) := H
 have A2 := Aside0.mk A20; clear A20; replace H := Option.bind_eq_some_iff.mp H; obtain ⟨⟨t395, t396, t397⟩, A30, H⟩ := H
 replace H : (some (t388, t389, t390, t391, t395, t396, t397)) = some (r1, r2, r3, r4, r5, r6, r7) := H
 have A3 := Aside0.mk A30; clear A30
 simp only [Option.some.injEq, Prod.mk.injEq] at H
 obtain ⟨rfl, rfl, rfl, rfl, rfl, rfl, rfl⟩ := H
 go_enter Try.func62, Try.ntmps62
 go_upto_region 2 with (first | ((with_reducible refine gate_dst (N := 2) rfl ?_); refine box_event ?hg (N := 2) ?hd (cs := #[.int .i64 0, .int .i64 0, .int .i64 0, .int .i64 0]) (t := 44) ?hr ?_; (case hd => rfl); (case hg => rfl); (case hr => first | (go_simp; done) | (go_simp; rfl)); intro gb387 hg wE0 hbox hb; have GE387 := Aside0.mk (show w.heap.size ≤ gb387 from (by rw [hg]; exact below_size HB.out)); have GW387 := GE387; have n1_ := Aside0.mk (below_step HB.out hb); clear HB; have HB := n1_; clear n1_; have BK387 := Aside0.mk hbox; clear hb hbox hg))
 generalize hgst : wE0.heap.size = gst
 have HI0 : Aside0 (IsS101 w (wE0.alloc (.cells #[.slice A0 l0.length c0, .int .i64 0, .int .u64 0] 101)) gst l0 0 0) := ⟨⟨A0, c0, by rw [← hgst]; exact heap_alloc_new wE0 _, by rw [← hgst]; exact below_size HB.out, hr0⟩⟩
 have NB0_387 : Aside0 (gst ≠ gb387) := ⟨by rw [← hgst]; exact Nat.ne_of_gt (blk_lt BK387.out)⟩
 have NB387_0 : Aside0 (gb387 ≠ gst) := ⟨by rw [← hgst]; exact Nat.ne_of_lt (blk_lt BK387.out)⟩
 have m1_ := Aside0.mk (blk_alloc BK387.out (.cells #[.slice A0 l0.length c0, .int .i64 0, .int .u64 0] 101))
 clear BK387; have BK387 := m1_; clear m1_
 have n1_ := Aside0.mk (below_alloc HB.out (.cells #[.slice A0 l0.length c0, .int .i64 0, .int .u64 0] 101))
 clear HB; have HB := n1_; clear n1_
 have HK := Aside0.mk (KeepBut.of_below HB.out gst none)
 have HL := Aside0.mk (Nat.le_refl w.heap.size)
 have HW0 := Aside0.mk (Nat.le_refl w.heap.size)
 clear hr0 hgst
 generalize (wE0.alloc (.cells #[.slice A0 l0.length c0, .int .i64 0, .int .u64 0] 101)) = wS_ at HI0 HB HK BK387 ⊢
 try go_wp2_with (first | ((with_reducible refine gate_dst (N := 2) rfl ?_); refine box_event ?hg (N := 2) ?hd (cs := #[.int .i64 0, .int .i64 0, .int .i64 0, .int .i64 0]) (t := 44) ?hr ?_; (case hd => rfl); (case hg => rfl); (case hr => first | (go_simp; done) | (go_simp; rfl)); intro gb387 hg w4 hbox hb; have n0_ := Aside0.mk (IsS101.below (by repeat (first | (with_reducible first | exact HI0.out | apply IsS101.alloc | apply IsS101.drewN | apply IsS101.drew | apply IsS101.set_1 | apply IsS101.set_2) | exact HI0.out)) hb); have n1_ := Aside0.mk (KeepBut.trans (by repeat (first | (with_reducible first | exact HK.out | apply KeepBut.set_ | apply keep_drewN | apply keep_drew | apply keep_alloc) | exact HK.out)) (KeepBut.of_below hb gst none) (.inl rfl)); have n2_ := Aside0.mk (below_step (by repeat (first | (with_reducible first | exact HB.out | apply below_alloc | apply pw_below_drewN | apply below_drew1 | refine below_set ?_ (IsS101.ge HI0.out)) | exact HB.out)) hb); have n3_ := Aside0.mk (hbox); have n4_ := Aside0.mk ((by rw [hg]; exact (keep_size (w := w) (g := gst) (row := none) (by repeat (first | (with_reducible first | exact HK.out | apply KeepBut.set_ | apply keep_drewN | apply keep_drew | apply keep_alloc) | exact HK.out))) : w.heap.size ≤ gb387)); have n5_ := Aside0.mk ((Nat.le_trans HW0.out (by rw [hg]; exact (keep_size (w := w) (g := gst) (row := none) (by repeat (first | (with_reducible first | exact HK.out | apply KeepBut.set_ | apply keep_drewN | apply keep_drew | apply keep_alloc) | exact HK.out))) : w.heap.size ≤ gb387) : w.heap.size ≤ gb387)); have n6_ := Aside0.mk ((by rw [hg]; exact Nat.ne_of_lt (IsS101.lt (show IsS101 w _ gst l0 0 0 from by repeat (first | (with_reducible first | exact HI0.out | apply IsS101.alloc | apply IsS101.drewN | apply IsS101.drew | apply IsS101.set_1 | apply IsS101.set_2) | exact HI0.out))) : gst ≠ gb387)); have n7_ := Aside0.mk ((by rw [hg]; exact Nat.ne_of_gt (IsS101.lt (show IsS101 w _ gst l0 0 0 from by repeat (first | (with_reducible first | exact HI0.out | apply IsS101.alloc | apply IsS101.drewN | apply IsS101.drew | apply IsS101.set_1 | apply IsS101.set_2) | exact HI0.out))) : gb387 ≠ gst)); clear HI0; clear HK; clear HB; have HI0 := n0_; have HK := n1_; have HB := n2_; have BK387 := n3_; have GW387 := n4_; have GE387 := n5_; have NB0_387 := n6_; have NB387_0 := n7_; clear n0_ n1_ n2_ n3_ n4_ n5_ n6_ n7_; clear hb hbox hg) | ((with_reducible refine gate_callee (f := 105) rfl ?_); refine goesL_ (some 10) rfl rfl Try.func105 (by kernel_rfl) rfl #[.pointer (some ⟨gst, 0, none⟩), .int .i64 1] rfl gl_ ?_; (with_reducible refine (spec_l1Cur_tool.calls k gst l0 0 0 1 t388 t389 t390 t391 t392 t393 w _ ?side1 ?side2 A2.out).mono ?_); (case side1 => repeat (first | (with_reducible first | exact HI0.out | apply IsS101.alloc | apply IsS101.drewN | apply IsS101.drew | apply IsS101.set_1 | apply IsS101.set_2 | refine IsS101.far ?_ NB0_387.out _) | exact HI0.out)); (case side2 => repeat (first | (with_reducible first | exact HB.out | apply below_alloc | apply pw_below_drewN | apply below_drew1 | refine below_set ?_ (IsS101.ge HI0.out) | refine below_set ?_ GE387.out) | exact HB.out)); rintro e w5 ⟨rfl, hi, hb, hk⟩; refine ⟨_, rfl, ?_⟩; have n0_ := Aside0.mk (KeepBut.blk hk (g' := gb387) (o := .cells #[.int .i64 0, .int .i64 0, .int .i64 0, .int .i64 0] 44 (0, 0)) (by (with_reducible repeat (first | refine blk_drewN ?_ _ | refine blk_drew ?_ | refine blk_alloc ?_ _)); exact BK387.out) NB387_0.out (by simp)); have n1_ := Aside0.mk (KeepBut.trans (by repeat (first | (with_reducible first | exact HK.out | apply KeepBut.set_ | apply keep_drewN | apply keep_drew | apply keep_alloc | refine keep_far ?_ GW387.out _) | exact HK.out)) hk (.inl rfl)); have n2_ := Aside0.mk (hb); have n3_ := Aside0.mk (hi); clear BK387; clear HK; clear HB; clear HI0; have BK387 := n0_; have HK := n1_; have HB := n2_; have HI0 := n3_; clear n0_ n1_ n2_ n3_; (try clear hb); (try clear hk); (try clear hi)) | ((with_reducible refine gate_dst (N := 5) rfl ?_); refine box_event ?hg (N := 5) ?hd (cs := #[.int .i64 0, .int .i64 0, .int .i64 0, .int .i64 0]) (t := 44) ?hr ?_; (case hd => rfl); (case hg => rfl); (case hr => first | (go_simp; done) | (go_simp; rfl)); intro gb394 hg w6 hbox hb; have n0_ := Aside0.mk (IsS101.below (by repeat (first | (with_reducible first | exact HI0.out | apply IsS101.alloc | apply IsS101.drewN | apply IsS101.drew | apply IsS101.set_1 | apply IsS101.set_2 | refine IsS101.far ?_ NB0_387.out _) | exact HI0.out)) hb); have n1_ := Aside0.mk (blk_below (bk_ BK387) hb); have n2_ := Aside0.mk (KeepBut.trans (by repeat (first | (with_reducible first | exact HK.out | apply KeepBut.set_ | apply keep_drewN | apply keep_drew | apply keep_alloc | refine keep_far ?_ GW387.out _) | exact HK.out)) (KeepBut.of_below hb gst none) (.inl rfl)); have n3_ := Aside0.mk (below_step (by repeat (first | (with_reducible first | exact HB.out | apply below_alloc | apply pw_below_drewN | apply below_drew1 | refine below_set ?_ (IsS101.ge HI0.out) | refine below_set ?_ GE387.out) | exact HB.out)) hb); have n4_ := Aside0.mk (hbox); have n5_ := Aside0.mk ((by rw [hg]; exact (keep_size (w := w) (g := gst) (row := none) (by repeat (first | (with_reducible first | exact HK.out | apply KeepBut.set_ | apply keep_drewN | apply keep_drew | apply keep_alloc | refine keep_far ?_ GW387.out _) | exact HK.out))) : w.heap.size ≤ gb394)); have n6_ := Aside0.mk ((Nat.le_trans HW0.out (by rw [hg]; exact (keep_size (w := w) (g := gst) (row := none) (by repeat (first | (with_reducible first | exact HK.out | apply KeepBut.set_ | apply keep_drewN | apply keep_drew | apply keep_alloc | refine keep_far ?_ GW387.out _) | exact HK.out))) : w.heap.size ≤ gb394) : w.heap.size ≤ gb394)); have n7_ := Aside0.mk ((by rw [hg]; exact Nat.ne_of_lt (blk_lt (g := gb387) (o := .cells #[.int .i64 0, .int .i64 0, .int .i64 0, .int .i64 0] 44 (0, 0)) (by (with_reducible repeat (first | refine blk_drewN ?_ _ | refine blk_drew ?_ | refine blk_alloc ?_ _)); exact BK387.out)) : gb387 ≠ gb394)); have n8_ := Aside0.mk ((by rw [hg]; exact Nat.ne_of_gt (blk_lt (g := gb387) (o := .cells #[.int .i64 0, .int .i64 0, .int .i64 0, .int .i64 0] 44 (0, 0)) (by (with_reducible repeat (first | refine blk_drewN ?_ _ | refine blk_drew ?_ | refine blk_alloc ?_ _)); exact BK387.out)) : gb394 ≠ gb387)); have n9_ := Aside0.mk ((by rw [hg]; exact Nat.ne_of_lt (IsS101.lt (show IsS101 w _ gst l0 t392 t393 from by repeat (first | (with_reducible first | exact HI0.out | apply IsS101.alloc | apply IsS101.drewN | apply IsS101.drew | apply IsS101.set_1 | apply IsS101.set_2 | refine IsS101.far ?_ NB0_387.out _) | exact HI0.out))) : gst ≠ gb394)); have n10_ := Aside0.mk ((by rw [hg]; exact Nat.ne_of_gt (IsS101.lt (show IsS101 w _ gst l0 t392 t393 from by repeat (first | (with_reducible first | exact HI0.out | apply IsS101.alloc | apply IsS101.drewN | apply IsS101.drew | apply IsS101.set_1 | apply IsS101.set_2 | refine IsS101.far ?_ NB0_387.out _) | exact HI0.out))) : gb394 ≠ gst)); clear HI0; clear BK387; clear HK; clear HB; have HI0 := n0_; have BK387 := n1_; have HK := n2_; have HB := n3_; have BK394 := n4_; have GW394 := n5_; have GE394 := n6_; have NB387_394 := n7_; have NB394_387 := n8_; have NB0_394 := n9_; have NB394_0 := n10_; clear n0_ n1_ n2_ n3_ n4_ n5_ n6_ n7_ n8_ n9_ n10_; clear hb hbox hg; have hnb7 := NB394_387.out; have hnc7 := NB387_394.out; have hnb8 := NB394_0.out; have hnc8 := NB0_394.out; have z9_0 : w6.cell? ⟨gb394, 0, none⟩ = some (.int .i64 0) := (blk_cell BK394.out 0).trans rfl; have z9_1 : w6.cell? ⟨gb394, 1, none⟩ = some (.int .i64 0) := (blk_cell BK394.out 1).trans rfl; have z9_2 : w6.cell? ⟨gb394, 2, none⟩ = some (.int .i64 0) := (blk_cell BK394.out 2).trans rfl; have z9_3 : w6.cell? ⟨gb394, 3, none⟩ = some (.int .i64 0) := (blk_cell BK394.out 3).trans rfl; have y9_0 := blk_frozen BK394.out 0; have y9_1 := blk_frozen BK394.out 1; have y9_2 := blk_frozen BK394.out 2; have y9_3 := blk_frozen BK394.out 3))
 have n0_ : Aside0 (((((w6.setCell ⟨gb394, 0, none⟩ (.int .i64 t388)).setCell ⟨gb394, 1, none⟩ (.int .i64 t389)).setCell ⟨gb394, 2, none⟩ (.int .i64 t390)).setCell ⟨gb394, 3, none⟩ (.int .i64 t391)).heap[gb387]? = some (.cells #[.int .i64 0, .int .i64 0, .int .i64 0, .int .i64 0] 44 (0, 0))) := ⟨by (with_reducible repeat (first | refine blk_drewN ?_ _ | refine blk_drew ?_ | refine blk_alloc ?_ _)); refine blk_far ?_ NB387_394.out _; (with_reducible repeat (first | refine blk_drewN ?_ _ | refine blk_drew ?_ | refine blk_alloc ?_ _)); refine blk_far ?_ NB387_394.out _; (with_reducible repeat (first | refine blk_drewN ?_ _ | refine blk_drew ?_ | refine blk_alloc ?_ _)); refine blk_far ?_ NB387_394.out _; (with_reducible repeat (first | refine blk_drewN ?_ _ | refine blk_drew ?_ | refine blk_alloc ?_ _)); refine blk_far ?_ NB387_394.out _; (with_reducible repeat (first | refine blk_drewN ?_ _ | refine blk_drew ?_ | refine blk_alloc ?_ _)); exact BK387.out⟩
 have n1_ : Aside0 (((((w6.setCell ⟨gb394, 0, none⟩ (.int .i64 t388)).setCell ⟨gb394, 1, none⟩ (.int .i64 t389)).setCell ⟨gb394, 2, none⟩ (.int .i64 t390)).setCell ⟨gb394, 3, none⟩ (.int .i64 t391)).heap[gb394]? = some (.cells #[.int .i64 t388, .int .i64 t389, .int .i64 t390, .int .i64 t391] 44 (0, 0))) := ⟨by (with_reducible repeat (first | refine blk_drewN ?_ _ | refine blk_drew ?_ | refine blk_alloc ?_ _)); refine blk_put (cs := #[.int .i64 t388, .int .i64 t389, .int .i64 t390, .int .i64 0]) ?_ 3 _ rfl; (with_reducible repeat (first | refine blk_drewN ?_ _ | refine blk_drew ?_ | refine blk_alloc ?_ _)); refine blk_put (cs := #[.int .i64 t388, .int .i64 t389, .int .i64 0, .int .i64 0]) ?_ 2 _ rfl; (with_reducible repeat (first | refine blk_drewN ?_ _ | refine blk_drew ?_ | refine blk_alloc ?_ _)); refine blk_put (cs := #[.int .i64 t388, .int .i64 0, .int .i64 0, .int .i64 0]) ?_ 1 _ rfl; (with_reducible repeat (first | refine blk_drewN ?_ _ | refine blk_drew ?_ | refine blk_alloc ?_ _)); refine blk_put (cs := #[.int .i64 0, .int .i64 0, .int .i64 0, .int .i64 0]) ?_ 0 _ rfl; (with_reducible repeat (first | refine blk_drewN ?_ _ | refine blk_drew ?_ | refine blk_alloc ?_ _)); exact BK394.out⟩
 have n2_ : Aside0 (IsS101 w ((((w6.setCell ⟨gb394, 0, none⟩ (.int .i64 t388)).setCell ⟨gb394, 1, none⟩ (.int .i64 t389)).setCell ⟨gb394, 2, none⟩ (.int .i64 t390)).setCell ⟨gb394, 3, none⟩ (.int .i64 t391)) gst l0 t392 t393) := ⟨by repeat (first | (with_reducible first | exact HI0.out | apply IsS101.alloc | apply IsS101.drewN | apply IsS101.drew | apply IsS101.set_1 | apply IsS101.set_2 | refine IsS101.far ?_ NB0_387.out _ | refine IsS101.far ?_ NB0_394.out _) | exact HI0.out)⟩
 have n3_ : Aside0 (KeepBut w ((((w6.setCell ⟨gb394, 0, none⟩ (.int .i64 t388)).setCell ⟨gb394, 1, none⟩ (.int .i64 t389)).setCell ⟨gb394, 2, none⟩ (.int .i64 t390)).setCell ⟨gb394, 3, none⟩ (.int .i64 t391)) gst none) := ⟨by repeat (first | (with_reducible first | exact HK.out | apply KeepBut.set_ | apply keep_drewN | apply keep_drew | apply keep_alloc | refine keep_far ?_ GW387.out _ | refine keep_far ?_ GW394.out _) | exact HK.out)⟩
 have n4_ : Aside0 (Below w.heap.size w ((((w6.setCell ⟨gb394, 0, none⟩ (.int .i64 t388)).setCell ⟨gb394, 1, none⟩ (.int .i64 t389)).setCell ⟨gb394, 2, none⟩ (.int .i64 t390)).setCell ⟨gb394, 3, none⟩ (.int .i64 t391))) := ⟨by repeat (first | (with_reducible first | exact HB.out | apply below_alloc | apply pw_below_drewN | apply below_drew1 | refine below_set ?_ (IsS101.ge HI0.out) | refine below_set ?_ GE387.out | refine below_set ?_ GE394.out) | exact HB.out)⟩
 (try clear BK387); (try clear BK394); (try clear HI0); (try clear HK); (try clear HB)
 generalize ((((w6.setCell ⟨gb394, 0, none⟩ (.int .i64 t388)).setCell ⟨gb394, 1, none⟩ (.int .i64 t389)).setCell ⟨gb394, 2, none⟩ (.int .i64 t390)).setCell ⟨gb394, 3, none⟩ (.int .i64 t391)) = w10 at n0_ n1_ n2_ n3_ n4_ ⊢
 have BK387 := n0_; have BK394 := n1_; have HI0 := n2_; have HK := n3_; have HB := n4_; clear n0_ n1_ n2_ n3_ n4_
 have n0_ := Aside0.mk (blk_drew BK387.out)
 have n1_ := Aside0.mk (blk_drew BK394.out)
 have n2_ := Aside0.mk (IsS101.drew HI0.out)
 have n3_ := Aside0.mk (keep_drew HK.out)
 have n4_ := Aside0.mk (below_drew1 HB.out)
 clear BK387; clear BK394; clear HI0; clear HK; clear HB; have BK387 := n0_; have BK394 := n1_; have HI0 := n2_; have HK := n3_; have HB := n4_; clear n0_ n1_ n2_ n3_ n4_
 refine start_ (n := 7) (S := fun w' => w'.cell? ⟨gb394, 0, none⟩ = some (.int .i64 t388) ∧ w'.cell? ⟨gb394, 1, none⟩ = some (.int .i64 t389) ∧ w'.cell? ⟨gb394, 2, none⟩ = some (.int .i64 t390) ∧ w'.cell? ⟨gb394, 3, none⟩ = some (.int .i64 t391)) (ds := []) #[false, false, false, false, false, false, false] (by kernel_rfl) rfl rfl ⟨(blk_cell BK394.out 0).trans rfl, (blk_cell BK394.out 1).trans rfl, (blk_cell BK394.out 2).trans rfl, (blk_cell BK394.out 3).trans rfl⟩ (fun hHeld => ?_)
 generalize w10.drew = w11 at BK387 BK394 HI0 HK HB hHeld ⊢
 refine pure_ (i := 1) (N := some 12) (v := ?_) (a' := ?_) #[false, true, false, false, false, false, false] rfl rfl (by kernel_rfl) (fun _ _ _ h => h) (Or.inl ⟨by rfl, ?_⟩) ?_ ?_
 rotate_left
 ·intro w'
  go_simp
  with_reducible rfl
 rotate_left
 ·simp only [Act.put, zA, zB, zC, i64_w, i32_w]
  rfl
 refine pure_ (i := 2) (N := some 13) (v := ?_) (a' := ?_) #[false, true, true, false, false, false, false] rfl rfl (by kernel_rfl) (fun _ _ _ h => h) (Or.inl ⟨by rfl, ?_⟩) ?_ ?_
 rotate_left
 ·intro w'
  go_simp
  with_reducible rfl
 rotate_left
 ·simp only [Act.put, zA, zB, zC, i64_w, i32_w]
  rfl
 refine take_ (i := 0) (N := some 11) (v := ?_) (a' := ?_) #[true, true, true, false, false, false, false] rfl rfl (by kernel_rfl) (fun _ _ _ h => h) (Or.inl ⟨by rfl, ?_⟩) hHeld ?_ ?_
 rotate_left
 ·rintro w' ⟨s0, s1, s2, s3⟩
  go_simp
  with_reducible rfl
 rotate_left
 ·simp only [Act.put, zA, zB, zC, i64_w, i32_w]
  rfl
 refine take_ (i := 3) (N := some 14) (v := ?_) (a' := ?_) #[true, true, true, true, false, false, false] rfl rfl (by kernel_rfl) (fun _ _ _ h => h) (Or.inl ⟨by rfl, ?_⟩) hHeld ?_ ?_
 rotate_left
 ·rintro w' ⟨s0, s1, s2, s3⟩
  go_simp
  with_reducible rfl
 rotate_left
 ·simp only [Act.put, zA, zB, zC, i64_w, i32_w]
  rfl
 refine one_ (i := 4) (N := some 15) #[true, true, true, true, true, false, false] rfl rfl (by kernel_rfl) (by decide) (fun K hK => ?_)
 refine goes_ Try.func106 (by kernel_rfl) rfl #[.pointer (some ⟨gst, 0, none⟩), .int .i64 t389] (by rfl) rfl rfl gl_ ?_
 with_reducible refine (spec_l1Cur_reading3.calls gst l0 t392 t393 t389 t395 t396 t397 w _ ?side1 ?side2 A3.out).mono ?_
 (case side1 => repeat (first | (with_reducible first | exact HI0.out | apply IsS101.alloc | apply IsS101.drewN | apply IsS101.drew | apply IsS101.set_1 | apply IsS101.set_2 | refine IsS101.far ?_ NB0_387.out _ | refine IsS101.far ?_ NB0_394.out _) | exact HI0.out))
 (case side2 => repeat (first | (with_reducible first | exact HB.out | apply below_alloc | apply pw_below_drewN | apply below_drew1 | refine below_set ?_ (IsS101.ge HI0.out) | refine below_set ?_ GE387.out | refine below_set ?_ GE394.out) | exact HB.out))
 rintro e w12 ⟨rfl, hi, hb, hk⟩
 refine ⟨_, rfl, ?_⟩
 have n0_ := Aside0.mk (KeepBut.blk hk (g' := gb387) (o := .cells #[.int .i64 0, .int .i64 0, .int .i64 0, .int .i64 0] 44 (0, 0)) (by (with_reducible repeat (first | refine blk_drewN ?_ _ | refine blk_drew ?_ | refine blk_alloc ?_ _)); exact BK387.out) NB387_0.out (by simp))
 have n1_ := Aside0.mk (KeepBut.blk hk (g' := gb394) (o := .cells #[.int .i64 t388, .int .i64 t389, .int .i64 t390, .int .i64 t391] 44 (0, 0)) (by (with_reducible repeat (first | refine blk_drewN ?_ _ | refine blk_drew ?_ | refine blk_alloc ?_ _)); exact BK394.out) NB394_0.out (by simp))
 have n2_ := Aside0.mk (KeepBut.trans (by repeat (first | (with_reducible first | exact HK.out | apply KeepBut.set_ | apply keep_drewN | apply keep_drew | apply keep_alloc | refine keep_far ?_ GW387.out _ | refine keep_far ?_ GW394.out _) | exact HK.out)) hk (.inl rfl))
 have n3_ := Aside0.mk (hb)
 have n4_ := Aside0.mk (hi)
 clear BK387; clear BK394; clear HK; clear HB; clear HI0; have BK387 := n0_; have BK394 := n1_; have HK := n2_; have HB := n3_; have HI0 := n4_; clear n0_ n1_ n2_ n3_ n4_; (try clear hb)
 
 (try clear hk); (try clear hi)
 refine hK.out _ _ ⟨(blk_cell BK394.out 0).trans rfl, (blk_cell BK394.out 1).trans rfl, (blk_cell BK394.out 2).trans rfl, (blk_cell BK394.out 3).trans rfl⟩ (fun hHeld => ?_)
 clear hK K
 refine norm_ (a' := ?_) ?_ ?_
 rotate_left
 ·show Act.put _ (some 15) _ = _
  simp only [Act.put, zA, zB, zC, i64_w, i32_w]
  rfl
 refine one_ (i := 5) (N := none) #[true, true, true, true, true, true, false] rfl rfl (by kernel_rfl) (by decide) (fun K hK => ?_)
 have hs13 : w12.cell? ⟨gb387, 0, none⟩ = some (.int .i64 0) := (blk_cell BK387.out 0).trans rfl
 have hfs13 := blk_frozen BK387.out 0; have hns13_1 := NB394_387.out; have hms13_1 := NB387_394.out
 have hs14 : w12.cell? ⟨gb387, 1, none⟩ = some (.int .i64 0) := (blk_cell BK387.out 1).trans rfl
 have hfs14 := blk_frozen BK387.out 1; have hns14_1 := NB394_387.out; have hms14_1 := NB387_394.out
 have hs15 : w12.cell? ⟨gb387, 2, none⟩ = some (.int .i64 0) := (blk_cell BK387.out 2).trans rfl
 have hfs15 := blk_frozen BK387.out 2; have hns15_1 := NB394_387.out; have hms15_1 := NB387_394.out
 have hs16 : w12.cell? ⟨gb387, 3, none⟩ = some (.int .i64 0) := (blk_cell BK387.out 3).trans rfl
 have hfs16 := blk_frozen BK387.out 3; have hns16_1 := NB394_387.out; have hms16_1 := NB387_394.out
 refine skip_ (w1 := ?_) (by rfl) rfl ?_ ?_
 rotate_left
 ·go_simp
  rfl
 refine hK.out _ _ ⟨((cell_far (p := ⟨gb387, _, none⟩) NB394_387.out _).trans (((cell_far (p := ⟨gb387, _, none⟩) NB394_387.out _).trans (((cell_far (p := ⟨gb387, _, none⟩) NB394_387.out _).trans (((cell_far (p := ⟨gb387, _, none⟩) NB394_387.out _).trans (hHeld.1)))))))), ((cell_far (p := ⟨gb387, _, none⟩) NB394_387.out _).trans (((cell_far (p := ⟨gb387, _, none⟩) NB394_387.out _).trans (((cell_far (p := ⟨gb387, _, none⟩) NB394_387.out _).trans (((cell_far (p := ⟨gb387, _, none⟩) NB394_387.out _).trans (hHeld.2.1)))))))), ((cell_far (p := ⟨gb387, _, none⟩) NB394_387.out _).trans (((cell_far (p := ⟨gb387, _, none⟩) NB394_387.out _).trans (((cell_far (p := ⟨gb387, _, none⟩) NB394_387.out _).trans (((cell_far (p := ⟨gb387, _, none⟩) NB394_387.out _).trans (hHeld.2.2.1)))))))), ((cell_far (p := ⟨gb387, _, none⟩) NB394_387.out _).trans (((cell_far (p := ⟨gb387, _, none⟩) NB394_387.out _).trans (((cell_far (p := ⟨gb387, _, none⟩) NB394_387.out _).trans (((cell_far (p := ⟨gb387, _, none⟩) NB394_387.out _).trans (hHeld.2.2.2))))))))⟩ (fun hHeld => ?_)
 clear hK K
 refine pure_ (i := 6) (N := some 3) (v := ?_) (a' := ?_) #[true, true, true, true, true, true, true] rfl rfl (by kernel_rfl) (fun _ _ _ h => h) (Or.inl ⟨by rfl, ?_⟩) ?_ ?_
 rotate_left
 ·intro w'
  go_simp
  with_reducible rfl
 rotate_left
 ·simp only [Act.put, zA, zB, zC, i64_w, i32_w]
  rfl
 refine done_ (by kernel_rfl) ?_
 try go_wp2
 refine bodyPost_ret (results_ct rfl _ _ gb387 44 #[.int .i64 t388, .int .i64 t389, .int .i64 t390, .int .i64 t391] (0, 0) _ rfl (by (with_reducible repeat (first | refine blk_drewN ?_ _ | refine blk_drew ?_ | refine blk_alloc ?_ _)); refine blk_put (cs := #[.int .i64 t388, .int .i64 t389, .int .i64 t390, .int .i64 0]) ?_ 3 _ rfl; (with_reducible repeat (first | refine blk_drewN ?_ _ | refine blk_drew ?_ | refine blk_alloc ?_ _)); refine blk_put (cs := #[.int .i64 t388, .int .i64 t389, .int .i64 0, .int .i64 0]) ?_ 2 _ rfl; (with_reducible repeat (first | refine blk_drewN ?_ _ | refine blk_drew ?_ | refine blk_alloc ?_ _)); refine blk_put (cs := #[.int .i64 t388, .int .i64 0, .int .i64 0, .int .i64 0]) ?_ 1 _ rfl; (with_reducible repeat (first | refine blk_drewN ?_ _ | refine blk_drew ?_ | refine blk_alloc ?_ _)); refine blk_put (cs := #[.int .i64 0, .int .i64 0, .int .i64 0, .int .i64 0]) ?_ 0 _ rfl; (with_reducible repeat (first | refine blk_drewN ?_ _ | refine blk_drew ?_ | refine blk_alloc ?_ _)); exact BK387.out) Try.underlying44 rfl (by kernel_rfl)) rfl ?_
 exact ⟨by first | rfl | (simp <;> rfl) | (simp [*] <;> rfl), gst, by repeat (first | (with_reducible first | exact HI0.out | apply IsS101.alloc | apply IsS101.drewN | apply IsS101.drew | apply IsS101.set_1 | apply IsS101.set_2 | refine IsS101.far ?_ NB0_387.out _ | refine IsS101.far ?_ NB0_394.out _) | exact HI0.out), by repeat (first | (with_reducible first | exact HB.out | apply below_alloc | apply pw_below_drewN | apply below_drew1 | refine below_set ?_ (IsS101.ge HI0.out) | refine below_set ?_ GE387.out | refine below_set ?_ GE394.out) | exact HB.out), by repeat (first | (with_reducible first | exact HK.out | apply KeepBut.set_ | apply keep_drewN | apply keep_drew | apply keep_alloc | refine keep_far ?_ GW387.out _ | refine keep_far ?_ GW394.out _) | exact HK.out)⟩

/-! ### spec_DrawCorrectReading: function 62 -/
def spec_DrawCorrectReading.f (k : Nat) (l0 : List Int) : Option (Int × Int × Int × Int × Int) := (spec_DrawCorrectReading_in.f k l0 0 0).bind fun t => some (t.1, t.2.1, t.2.2.1, t.2.2.2.1, t.2.2.2.2.1)
theorem spec_DrawCorrectReading.mono : ∀ l0 k, LeO (spec_DrawCorrectReading.f k l0) (spec_DrawCorrectReading.f (k + 1) l0) := by
 intro l0 k
 unfold spec_DrawCorrectReading.f
 exact LeO.bind (spec_DrawCorrectReading_in.mono l0 0 0 k) (fun _ => LeO.refl _)
theorem spec_DrawCorrectReading.calls (k : Nat) (A0 : Option Addr) (c0 : Nat) (l0 : List Int) (r1 : Int) (r2 : Int) (r3 : Int) (r4 : Int) (r5 : Int) (w : World) (hr0 : Kd.C (Kd.int .u8) w A0 l0.length l0) (hc0 : l0.length ≤ c0) (h : spec_DrawCorrectReading.f k l0 = some (r1, r2, r3, r4, r5)) :
  Calls Try.prog 62 #[.slice A0 l0.length c0] w fun e w' => e = .returned (.tuple #[.agg #[.int .i64 r1, .int .i64 r2, .int .i64 r3, .int .i64 r4], .int .i64 r5]) ∧ Below w.heap.size w w' := by
 unfold spec_DrawCorrectReading.f at h
 obtain ⟨⟨r1, r2, r3, r4, r5, r6, r7⟩, h1, h2⟩ := Option.bind_eq_some_iff.mp h
 simp only [Option.some.injEq, Prod.mk.injEq] at h2
 obtain ⟨rfl, rfl, rfl, rfl, rfl⟩ := h2
 exact (spec_DrawCorrectReading_in.calls k A0 c0 l0 r1 r2 r3 r4 r5 r6 r7 w hr0 hc0 h1).mono fun e w' hp => ⟨hp.1, hp.2.elim fun _ h_ => h_.2.1⟩

end Go.Proofs.Ytpfmhoikhnhdcaa.XFnToolKinds
