/- Contracts of the functions that the law FnTeams comes to: each is told as a plain function of its arguments, and the machine's call does what that function says; no condition. Written by programs (print.py, xprint.py); Lean checks it. -/
import Derived.Test.YtafdklajmklmkaaGreatDoorXFnTeamsx0
import Derived.Test.YtafdklajmklmkaaGreatDoorXFnTeamsx8
namespace Go.Proofs.YtafdklajmklmkaaGreatDoor.XFnTeams
open Go.RowKit Go.Proofs.YtafdklajmklmkaaGreatDoorW.PrintWords Go.Proofs.YtafdklajmklmkaaGreatDoorW.PrintLast Go.Proofs.YtafdklajmklmkaaGreatDoorW.PrintMore
open List renaming setIfInBounds_toArray → zA, set_cons_zero → zB, set_cons_succ → zC
attribute [local go_sem] max2_int min2_int max_two min_two max_three min_three max_four min_four   -- for this text's walks alone
open Bool renaming true → T, false → F
set_option linter.unusedVariables false
set_option linter.unusedSimpArgs false

/-! ### spec_l5Good: function 38 -/
mutual
def spec_l5Good.l0 : Nat → List (S41) → Int → Option (Bool)
 | 0, _, _ => none
 | k + 1, x0, x3 => if x3 < (x0.length : Int) then (if 0 ≤ x3 then ((spec_l1In.f ((rd_T41 x0 x3).f0) 1 99).bind fun t251 => (if t251 = true then ((spec_l2Word.f k ((rd_T41 x0 x3).f1)).bind fun t252 => (if t252 = true then ((spec_l5Skills.f ((rd_T41 x0 x3).f2)).bind fun t253 => (if t253 = true then ((spec_l1In.f ((rd_T41 x0 x3).f3) 0 500).bind fun t254 => (if t254 = true then (if x3 > 0 then (if 0 ≤ (wrap64 (x3 - 1)) then (if (wrap64 (x3 - 1)) < (x0.length : Int) then (spec_l5Good.j1 k x0 x3 (decide (((rd_T41 x0 (wrap64 (x3 - 1))).f0) ≥ ((rd_T41 x0 x3).f0))) ((rd_T41 x0 x3).f0) ((rd_T41 x0 x3).f1) ((rd_T41 x0 x3).f2) ((rd_T41 x0 x3).f3)) else (none)) else (none)) else (spec_l5Good.j1 k x0 x3 false ((rd_T41 x0 x3).f0) ((rd_T41 x0 x3).f1) ((rd_T41 x0 x3).f2) ((rd_T41 x0 x3).f3))) else (spec_l5Good.j1 k x0 x3 true ((rd_T41 x0 x3).f0) ((rd_T41 x0 x3).f1) ((rd_T41 x0 x3).f2) ((rd_T41 x0 x3).f3)))) else (spec_l5Good.j1 k x0 x3 true ((rd_T41 x0 x3).f0) ((rd_T41 x0 x3).f1) ((rd_T41 x0 x3).f2) ((rd_T41 x0 x3).f3)))) else (spec_l5Good.j1 k x0 x3 true ((rd_T41 x0 x3).f0) ((rd_T41 x0 x3).f1) ((rd_T41 x0 x3).f2) ((rd_T41 x0 x3).f3)))) else (spec_l5Good.j1 k x0 x3 true ((rd_T41 x0 x3).f0) ((rd_T41 x0 x3).f1) ((rd_T41 x0 x3).f2) ((rd_T41 x0 x3).f3)))) else (none)) else (some (decide ((x0.length : Int) ≤ 10)))
def spec_l5Good.j1 : Nat → List (S41) → Int → Bool → Int → ByteArray → Int → Int → Option (Bool)
 | 0, _, _, _, _, _, _, _ => none
 | k + 1, x0, x3, x52, x251000, x251001, x251002, x251003 => if x52 = true then (some false) else (spec_l5Good.l1 k x0 x3 0 x251000 x251001 x251002 x251003)
def spec_l5Good.l1 : Nat → List (S41) → Int → Int → Int → ByteArray → Int → Int → Option (Bool)
 | 0, _, _, _, _, _, _, _ => none
 | k + 1, x0, x3, x5, x251000, x251001, x251002, x251003 => if x5 < x3 then (if 0 ≤ x5 then (if x5 < (x0.length : Int) then (if ((rd_T41 x0 x5).f1).toList = x251001.toList then (some false) else (spec_l5Good.l1 k x0 x3 (wrap64 (x5 + 1)) x251000 x251001 x251002 x251003)) else (none)) else (none)) else (spec_l5Good.l0 k x0 (wrap64 (x3 + 1)))
end
def spec_l5Good.f (k : Nat) (l0 : List (S41)) : Option (Bool) := spec_l5Good.l0 k l0 0
def spec_l5Good.T5 : Bool × List (List Nat × List Nat) := (true, [([], []), ([0], [0]), ([1], [1]), ([2], [2]), ([3, 2], [3]), ([4], [4]), ([5, 4], [4, 5]), ([6, 4, 4], [4, 6]), ([7, 4], [4, 7]), ([4, 8], [4, 8]), ([9, 7], [9]), ([10], [10]), ([11, 10], [10, 11]), ([12, 10, 10], [10, 12]), ([13, 10], [10, 13]), ([10, 14], [10, 14]), ([15, 13], [15]), ([16], [16]), ([17, 16], [16, 17]), ([18, 16, 16], [16, 18]), ([19, 16], [16, 19]), ([16, 20], [16, 20]), ([21, 19], [21]), ([22], [22]), ([23, 22], [22, 23]), ([24, 22, 22], [22, 24]), ([25], [25]), ([25], [25]), ([27, 25], [25, 27]), ([26, 28, 25], [25, 26, 28]), ([29, 25], [25, 29]), ([30, 25], [25, 30]), ([25], [25]), ([32, 25], [25, 32]), ([31, 33, 25], [25, 31, 33]), ([25, 34, 22], [22, 25, 34]), ([22, 35], [22, 35])])
def spec_l5Good.B5 : List Nat := [0, 1, 3, 7, 15, 31, 63, 127, 255, 511, 1023, 2047, 4095, 8191, 16383, 32767, 65535, 131071, 262143, 524287, 1048575, 2097151, 4194303, 8388607, 16777215, 33554431, 67108863, 67108863, 201326591, 536870911, 1073741823, 2147483647, 67108863, 4362076159, 17179869183, 34359738367, 68719476735]
theorem spec_l5Good.tab5 : rtab .any (opsOf Tryz.f38 5) = spec_l5Good.T5 := by kernel_rfl
theorem spec_l5Good.bits5 : waitsOk spec_l5Good.T5.2 spec_l5Good.B5 = true := by kernel_rfl
def spec_l5Good.T10 : Bool × List (List Nat × List Nat) := (true, [([], []), ([], []), ([0, 1], [0, 1]), ([2], [2]), ([3], [3]), ([], []), ([5], [5]), ([4, 6], [4, 6])])
def spec_l5Good.B10 : List Nat := [0, 0, 3, 7, 15, 0, 32, 127]
theorem spec_l5Good.tab10 : rtab .any (opsOf Tryz.f38 10) = spec_l5Good.T10 := by kernel_rfl
theorem spec_l5Good.bits10 : waitsOk spec_l5Good.T10.2 spec_l5Good.B10 = true := by kernel_rfl
set_option maxHeartbeats 8000000 in
set_option maxRecDepth 100000 in
theorem spec_l5Good.calls (k : Nat) (A0 : Option Addr) (c0 : Nat) (l0 : List (S41)) (r : Bool) (w : World) (hr0 : Kd.C k41 w A0 l0.length l0) (hc0 : l0.length ≤ c0) (h : spec_l5Good.f k l0 = some r) :
  Calls Tryz.prog 38 #[.slice A0 l0.length c0] w fun e w' => e = .returned (.bool r) ∧ Below w.heap.size w w' := by
 have hu41 := Tryz.underlying41; have HR0 := Aside0.mk hr0; have HC0 := Aside0.mk hc0; clear hr0 hc0
 have HB := Aside0.mk (Below.refl w.heap.size w)
 have H : (spec_l5Good.l0 k l0 0) = some r := h
 clear h
 have H' := Aside0.mk H
 clear H
 go_enter Tryz.func38, Tryz.ntmps38
 go_wp2
 go_loopg [3] k (fun kq v3 w' => ∃ (x3_1 : Int), v3 = .int .i64 x3_1 ∧ Aside0 (spec_l5Good.l0 kq l0 x3_1 = some r) ∧ Aside0 (kq ≤ k) ∧ Aside0 (Below w.heap.size w w'))
 case atStart => exact ⟨(0), z2_, H', ⟨Nat.le_refl _⟩, ⟨z5_⟩⟩
 case round =>
  clear H'
  obtain ⟨x3_1, rfl, HA, HK1, HB⟩ := hrel
  cases gk with
  | zero => exact absurd HA.out (by simp [spec_l5Good.l0])
  | succ k1 =>
   have H := HA.out; clear HA
   simp only [spec_l5Good.l0] at H
   by_cases c2 : x3_1 < (l0.length : Int)
   ·rw [if_pos c2] at H
    have c2b0 : decide (x3_1 < (l0.length : Int)) = true := decide_eq_true c2
    clear c2
    by_cases c3 : 0 ≤ x3_1
    ·rw [if_pos c3] at H
     have c3b0 : decide (0 ≤ x3_1) = true := decide_eq_true c3
     clear c3; have HC4 := Aside0.mk H; clear H
     have p249 : 0 ≤ (x3_1 : Int) := od_
     have q249 : x3_1 < (l0.length : Int) := od_
     obtain ⟨ad249, e249, hx249_0, hx249_1, hx249_2, hx249_3⟩ := at_T41 HR0.out x3_1 p249 q249
     cases e249
     replace hx249_0 := (HB.out.cell (World.block_lt_of_cell? w _ hx249_0)).trans hx249_0
     replace hx249_1 := (HB.out.cell (World.block_lt_of_cell? w _ hx249_1)).trans hx249_1
     replace hx249_2 := (HB.out.cell (World.block_lt_of_cell? w _ hx249_2)).trans hx249_2
     replace hx249_3 := (HB.out.cell (World.block_lt_of_cell? w _ hx249_3)).trans hx249_3
     replace p249 := eq_true p249
     replace q249 := eq_true q249
     go_upto_region 5 with (first | ((with_reducible refine gate_dst (N := 4) rfl ?_); refine box_event ?hg (N := 4) ?hd (cs := #[.int .i64 0, .string (⟨#[]⟩ : ByteArray), .int .i64 0, .int .i64 0]) (t := 41) ?hr ?_; (case hd => rfl); (case hg => rfl); (case hr => first | (go_simp; done) | (go_simp; rfl)); intro gb250 hg w5 hbox hb; have n0_ := Aside0.mk (below_step bx_ hb); have n1_ := Aside0.mk (hbox); have n2_ := Aside0.mk ((by rw [hg]; exact (below_size bx_) : w.heap.size ≤ gb250)); have n3_ := Aside0.mk ((by rw [hg]; exact (below_size bx_) : w.heap.size ≤ gb250)); clear HB; have HB := n0_; have BK250 := n1_; have GW250 := n2_; have GE250 := n3_; clear n0_ n1_ n2_ n3_; clear hb hbox hg; have z6_0 : w5.cell? ⟨gb250, 0, none⟩ = some (.int .i64 0) := (blk_cell BK250.out 0).trans rfl; have z6_1 : w5.cell? ⟨gb250, 1, none⟩ = some (.string (⟨#[]⟩ : ByteArray)) := (blk_cell BK250.out 1).trans rfl; have z6_2 : w5.cell? ⟨gb250, 2, none⟩ = some (.int .i64 0) := (blk_cell BK250.out 2).trans rfl; have z6_3 : w5.cell? ⟨gb250, 3, none⟩ = some (.int .i64 0) := (blk_cell BK250.out 3).trans rfl; have y6_0 := blk_frozen BK250.out 0; have y6_1 := blk_frozen BK250.out 1; have y6_2 := blk_frozen BK250.out 2; have y6_3 := blk_frozen BK250.out 3))
     (try simp only [Act.put, zA, zB, zC])
     go_cut [52] (fun v52 wc => ∃ (kq : Nat) (x52_3 : Bool), v52 = .bool x52_3 ∧ Aside0 (spec_l5Good.j1 kq l0 x3_1 x52_3 ((rd_T41 l0 x3_1).f0) ((rd_T41 l0 x3_1).f1) ((rd_T41 l0 x3_1).f2) ((rd_T41 l0 x3_1).f3) = some r) ∧ Aside0 (kq ≤ k1) ∧ Aside0 (wc.heap[gb250]? = some (.cells #[.int .i64 ((rd_T41 l0 x3_1).f0), .string ((rd_T41 l0 x3_1).f1), .int .i64 ((rd_T41 l0 x3_1).f2), .int .i64 ((rd_T41 l0 x3_1).f3)] 41 (0, 0))) ∧ Aside0 (Below w.heap.size w wc))
     case first =>
      have H := HC4.out; clear HC4; replace H := Option.bind_eq_some_iff.mp H; obtain ⟨t251, A70, H⟩ := H
      replace H : (if t251 = true then ((spec_l2Word.f k1 ((rd_T41 l0 x3_1).f1)).bind fun t252 => (if t252 = true then ((spec_l5Skills.f ((rd_T41 l0 x3_1).f2)).bind fun t253 => (if t253 = true then ((spec_l1In.f ((rd_T41 l0 x3_1).f3) 0 500).bind fun t254 => (if t254 = true then (if x3_1 > 0 then (if 0 ≤ (wrap64 (x3_1 - 1)) then (if (wrap64 (x3_1 - 1)) < (l0.length : Int) then (spec_l5Good.j1 k1 l0 x3_1 (decide (((rd_T41 l0 (wrap64 (x3_1 - 1))).f0) ≥ ((rd_T41 l0 x3_1).f0))) ((rd_T41 l0 x3_1).f0) ((rd_T41 l0 x3_1).f1) ((rd_T41 l0 x3_1).f2) ((rd_T41 l0 x3_1).f3)) else (none)) else (none)) else (spec_l5Good.j1 k1 l0 x3_1 false ((rd_T41 l0 x3_1).f0) ((rd_T41 l0 x3_1).f1) ((rd_T41 l0 x3_1).f2) ((rd_T41 l0 x3_1).f3))) else (spec_l5Good.j1 k1 l0 x3_1 true ((rd_T41 l0 x3_1).f0) ((rd_T41 l0 x3_1).f1) ((rd_T41 l0 x3_1).f2) ((rd_T41 l0 x3_1).f3)))) else (spec_l5Good.j1 k1 l0 x3_1 true ((rd_T41 l0 x3_1).f0) ((rd_T41 l0 x3_1).f1) ((rd_T41 l0 x3_1).f2) ((rd_T41 l0 x3_1).f3)))) else (spec_l5Good.j1 k1 l0 x3_1 true ((rd_T41 l0 x3_1).f0) ((rd_T41 l0 x3_1).f1) ((rd_T41 l0 x3_1).f2) ((rd_T41 l0 x3_1).f3)))) else (spec_l5Good.j1 k1 l0 x3_1 true ((rd_T41 l0 x3_1).f0) ((rd_T41 l0 x3_1).f1) ((rd_T41 l0 x3_1).f2) ((rd_T41 l0 x3_1).f3))) = some r := H
      have A7 := Aside0.mk A70; clear A70
      by_cases c8 : t251 = true
      ·subst c8
       have H1 : ((spec_l2Word.f k1 ((rd_T41 l0 x3_1).f1)).bind fun t252 => (if t252 = true then ((spec_l5Skills.f ((rd_T41 l0 x3_1).f2)).bind fun t253 => (if t253 = true then ((spec_l1In.f ((rd_T41 l0 x3_1).f3) 0 500).bind fun t254 => (if t254 = true then (if x3_1 > 0 then (if 0 ≤ (wrap64 (x3_1 - 1)) then (if (wrap64 (x3_1 - 1)) < (l0.length : Int) then (spec_l5Good.j1 k1 l0 x3_1 (decide (((rd_T41 l0 (wrap64 (x3_1 - 1))).f0) ≥ ((rd_T41 l0 x3_1).f0))) ((rd_T41 l0 x3_1).f0) ((rd_T41 l0 x3_1).f1) ((rd_T41 l0 x3_1).f2) ((rd_T41 l0 x3_1).f3)) else (none)) else (none)) else (spec_l5Good.j1 k1 l0 x3_1 false ((rd_T41 l0 x3_1).f0) ((rd_T41 l0 x3_1).f1) ((rd_T41 l0 x3_1).f2) ((rd_T41 l0 x3_1).f3))) else (spec_l5Good.j1 k1 l0 x3_1 true ((rd_T41 l0 x3_1).f0) ((rd_T41 l0 x3_1).f1) ((rd_T41 l0 x3_1).f2) ((rd_T41 l0 x3_1).f3)))) else (spec_l5Good.j1 k1 l0 x3_1 true ((rd_T41 l0 x3_1).f0) ((rd_T41 l0 x3_1).f1) ((rd_T41 l0 x3_1).f2) ((rd_T41 l0 x3_1).f3)))) else (spec_l5Good.j1 k1 l0 x3_1 true ((rd_T41 l0 x3_1).f0) ((rd_T41 l0 x3_1).f1) ((rd_T41 l0 x3_1).f2) ((rd_T41 l0 x3_1).f3)))) = some r := by rw [if_pos rfl] at H; exact H
       clear H; have H := H1; clear H1; replace H := Option.bind_eq_some_iff.mp H; obtain ⟨t252, A90, H⟩ := H
       replace H : (if t252 = true then ((spec_l5Skills.f ((rd_T41 l0 x3_1).f2)).bind fun t253 => (if t253 = true then ((spec_l1In.f ((rd_T41 l0 x3_1).f3) 0 500).bind fun t254 => (if t254 = true then (if x3_1 > 0 then (if 0 ≤ (wrap64 (x3_1 - 1)) then (if (wrap64 (x3_1 - 1)) < (l0.length : Int) then (spec_l5Good.j1 k1 l0 x3_1 (decide (((rd_T41 l0 (wrap64 (x3_1 - 1))).f0) ≥ ((rd_T41 l0 x3_1).f0))) ((rd_T41 l0 x3_1).f0) ((rd_T41 l0 x3_1).f1) ((rd_T41 l0 x3_1).f2) ((rd_T41 l0 x3_1).f3)) else (none)) else (none)) else (spec_l5Good.j1 k1 l0 x3_1 false ((rd_T41 l0 x3_1).f0) ((rd_T41 l0 x3_1).f1) ((rd_T41 l0 x3_1).f2) ((rd_T41 l0 x3_1).f3))) else (spec_l5Good.j1 k1 l0 x3_1 true ((rd_T41 l0 x3_1).f0) ((rd_T41 l0 x3_1).f1) ((rd_T41 l0 x3_1).f2) ((rd_T41 l0 x3_1).f3)))) else (spec_l5Good.j1 k1 l0 x3_1 true ((rd_T41 l0 x3_1).f0) ((rd_T41 l0 x3_1).f1) ((rd_T41 l0 x3_1).f2) ((rd_T41 l0 x3_1).f3)))) else (spec_l5Good.j1 k1 l0 x3_1 true ((rd_T41 l0 x3_1).f0) ((rd_T41 l0 x3_1).f1) ((rd_T41 l0 x3_1).f2) ((rd_T41 l0 x3_1).f3))) = some r := H
       have A9 := Aside0.mk A90; clear A90
       by_cases c10 : t252 = true
       ·subst c10
        have H1 : ((spec_l5Skills.f ((rd_T41 l0 x3_1).f2)).bind fun t253 => (if t253 = true then ((spec_l1In.f ((rd_T41 l0 x3_1).f3) 0 500).bind fun t254 => (if t254 = true then (if x3_1 > 0 then (if 0 ≤ (wrap64 (x3_1 - 1)) then (if (wrap64 (x3_1 - 1)) < (l0.length : Int) then (spec_l5Good.j1 k1 l0 x3_1 (decide (((rd_T41 l0 (wrap64 (x3_1 - 1))).f0) ≥ ((rd_T41 l0 x3_1).f0))) ((rd_T41 l0 x3_1).f0) ((rd_T41 l0 x3_1).f1) ((rd_T41 l0 x3_1).f2) ((rd_T41 l0 x3_1).f3)) else (none)) else (none)) else (spec_l5Good.j1 k1 l0 x3_1 false ((rd_T41 l0 x3_1).f0) ((rd_T41 l0 x3_1).f1) ((rd_T41 l0 x3_1).f2) ((rd_T41 l0 x3_1).f3))) else (spec_l5Good.j1 k1 l0 x3_1 true ((rd_T41 l0 x3_1).f0) ((rd_T41 l0 x3_1).f1) ((rd_T41 l0 x3_1).f2) ((rd_T41 l0 x3_1).f3)))) else (spec_l5Good.j1 k1 l0 x3_1 true ((rd_T41 l0 x3_1).f0) ((rd_T41 l0 x3_1).f1) ((rd_T41 l0 x3_1).f2) ((rd_T41 l0 x3_1).f3)))) = some r := by rw [if_pos rfl] at H; exact H
        clear H; have H := H1; clear H1; replace H := Option.bind_eq_some_iff.mp H; obtain ⟨t253, A110, H⟩ := H
        replace H : (if t253 = true then ((spec_l1In.f ((rd_T41 l0 x3_1).f3) 0 500).bind fun t254 => (if t254 = true then (if x3_1 > 0 then (if 0 ≤ (wrap64 (x3_1 - 1)) then (if (wrap64 (x3_1 - 1)) < (l0.length : Int) then (spec_l5Good.j1 k1 l0 x3_1 (decide (((rd_T41 l0 (wrap64 (x3_1 - 1))).f0) ≥ ((rd_T41 l0 x3_1).f0))) ((rd_T41 l0 x3_1).f0) ((rd_T41 l0 x3_1).f1) ((rd_T41 l0 x3_1).f2) ((rd_T41 l0 x3_1).f3)) else (none)) else (none)) else (spec_l5Good.j1 k1 l0 x3_1 false ((rd_T41 l0 x3_1).f0) ((rd_T41 l0 x3_1).f1) ((rd_T41 l0 x3_1).f2) ((rd_T41 l0 x3_1).f3))) else (spec_l5Good.j1 k1 l0 x3_1 true ((rd_T41 l0 x3_1).f0) ((rd_T41 l0 x3_1).f1) ((rd_T41 l0 x3_1).f2) ((rd_T41 l0 x3_1).f3)))) else (spec_l5Good.j1 k1 l0 x3_1 true ((rd_T41 l0 x3_1).f0) ((rd_T41 l0 x3_1).f1) ((rd_T41 l0 x3_1).f2) ((rd_T41 l0 x3_1).f3))) = some r := H
        have A11 := Aside0.mk A110; clear A110
        by_cases c12 : t253 = true
        ·subst c12
         have H1 : ((spec_l1In.f ((rd_T41 l0 x3_1).f3) 0 500).bind fun t254 => (if t254 = true then (if x3_1 > 0 then (if 0 ≤ (wrap64 (x3_1 - 1)) then (if (wrap64 (x3_1 - 1)) < (l0.length : Int) then (spec_l5Good.j1 k1 l0 x3_1 (decide (((rd_T41 l0 (wrap64 (x3_1 - 1))).f0) ≥ ((rd_T41 l0 x3_1).f0))) ((rd_T41 l0 x3_1).f0) ((rd_T41 l0 x3_1).f1) ((rd_T41 l0 x3_1).f2) ((rd_T41 l0 x3_1).f3)) else (none)) else (none)) else (spec_l5Good.j1 k1 l0 x3_1 false ((rd_T41 l0 x3_1).f0) ((rd_T41 l0 x3_1).f1) ((rd_T41 l0 x3_1).f2) ((rd_T41 l0 x3_1).f3))) else (spec_l5Good.j1 k1 l0 x3_1 true ((rd_T41 l0 x3_1).f0) ((rd_T41 l0 x3_1).f1) ((rd_T41 l0 x3_1).f2) ((rd_T41 l0 x3_1).f3)))) = some r := by rw [if_pos rfl] at H; exact H
         clear H; have H := H1; clear H1; replace H := Option.bind_eq_some_iff.mp H; obtain ⟨t254, A130, H⟩ := H
         replace H : (if t254 = true then (if x3_1 > 0 then (if 0 ≤ (wrap64 (x3_1 - 1)) then (if (wrap64 (x3_1 - 1)) < (l0.length : Int) then (spec_l5Good.j1 k1 l0 x3_1 (decide (((rd_T41 l0 (wrap64 (x3_1 - 1))).f0) ≥ ((rd_T41 l0 x3_1).f0))) ((rd_T41 l0 x3_1).f0) ((rd_T41 l0 x3_1).f1) ((rd_T41 l0 x3_1).f2) ((rd_T41 l0 x3_1).f3)) else (none)) else (none)) else (spec_l5Good.j1 k1 l0 x3_1 false ((rd_T41 l0 x3_1).f0) ((rd_T41 l0 x3_1).f1) ((rd_T41 l0 x3_1).f2) ((rd_T41 l0 x3_1).f3))) else (spec_l5Good.j1 k1 l0 x3_1 true ((rd_T41 l0 x3_1).f0) ((rd_T41 l0 x3_1).f1) ((rd_T41 l0 x3_1).f2) ((rd_T41 l0 x3_1).f3))) = some r := H
         have A13 := Aside0.mk A130; clear A130
         by_cases c14 : t254 = true
         ·subst c14
          have H1 : (if x3_1 > 0 then (if 0 ≤ (wrap64 (x3_1 - 1)) then (if (wrap64 (x3_1 - 1)) < (l0.length : Int) then (spec_l5Good.j1 k1 l0 x3_1 (decide (((rd_T41 l0 (wrap64 (x3_1 - 1))).f0) ≥ ((rd_T41 l0 x3_1).f0))) ((rd_T41 l0 x3_1).f0) ((rd_T41 l0 x3_1).f1) ((rd_T41 l0 x3_1).f2) ((rd_T41 l0 x3_1).f3)) else (none)) else (none)) else (spec_l5Good.j1 k1 l0 x3_1 false ((rd_T41 l0 x3_1).f0) ((rd_T41 l0 x3_1).f1) ((rd_T41 l0 x3_1).f2) ((rd_T41 l0 x3_1).f3))) = some r := by rw [if_pos rfl] at H; exact H
          clear H; have H := H1; clear H1
          by_cases c15 : x3_1 > 0
          ·rw [if_pos c15] at H
           have c15b0 : decide (0 < x3_1) = true := decide_eq_true c15
           clear c15
           (first | rw [c15b0] | (simp only [i64_w, i32_w]; rw [c15b0]) | skip)
           obtain ⟨ji16, hji16⟩ : ∃ j_ : Int, (wrap64 (x3_1 - 1)) = j_ := ⟨_, rfl⟩
           replace H : (if 0 ≤ (ji16) then (if (ji16) < (l0.length : Int) then (spec_l5Good.j1 k1 l0 x3_1 (decide (((rd_T41 l0 (ji16)).f0) ≥ ((rd_T41 l0 x3_1).f0))) ((rd_T41 l0 x3_1).f0) ((rd_T41 l0 x3_1).f1) ((rd_T41 l0 x3_1).f2) ((rd_T41 l0 x3_1).f3)) else (none)) else (none)) = some r := by first | (rw [hji16] at H; exact H) | (simp only [hji16] at H ⊢; exact H)
           (try rw [hji16] at A7)
           (try rw [hji16] at A9)
           (try rw [hji16] at A11)
           (try rw [hji16] at A13)
           have hji16w : (IntKind.i64.wrap (x3_1 - 1)) = ji16 := (i64_w _).trans hji16
           by_cases c17 : 0 ≤ (ji16)
           ·rw [if_pos c17] at H
            have c17b0 : decide (0 ≤ (ji16)) = true := decide_eq_true c17
            clear c17
            by_cases c18 : (ji16) < (l0.length : Int)
            ·rw [if_pos c18] at H
             have c18b0 : decide ((ji16) < (l0.length : Int)) = true := decide_eq_true c18
             clear c18
             have H' := Aside0.mk H
             clear H
             try go_wp2
             have n0_ : Aside0 (((((w5.setCell ⟨gb250, 0, none⟩ (.int .i64 ((rd_T41 l0 x3_1).f0))).setCell ⟨gb250, 1, none⟩ (.string ((rd_T41 l0 x3_1).f1))).setCell ⟨gb250, 2, none⟩ (.int .i64 ((rd_T41 l0 x3_1).f2))).setCell ⟨gb250, 3, none⟩ (.int .i64 ((rd_T41 l0 x3_1).f3))).heap[gb250]? = some (.cells #[.int .i64 ((rd_T41 l0 x3_1).f0), .string ((rd_T41 l0 x3_1).f1), .int .i64 ((rd_T41 l0 x3_1).f2), .int .i64 ((rd_T41 l0 x3_1).f3)] 41 (0, 0))) := ⟨z25_⟩
             have n1_ : Aside0 (Below w.heap.size w ((((w5.setCell ⟨gb250, 0, none⟩ (.int .i64 ((rd_T41 l0 x3_1).f0))).setCell ⟨gb250, 1, none⟩ (.string ((rd_T41 l0 x3_1).f1))).setCell ⟨gb250, 2, none⟩ (.int .i64 ((rd_T41 l0 x3_1).f2))).setCell ⟨gb250, 3, none⟩ (.int .i64 ((rd_T41 l0 x3_1).f3)))) := ⟨z13_⟩
             (try clear BK250); (try clear HB)
             generalize ((((w5.setCell ⟨gb250, 0, none⟩ (.int .i64 ((rd_T41 l0 x3_1).f0))).setCell ⟨gb250, 1, none⟩ (.string ((rd_T41 l0 x3_1).f1))).setCell ⟨gb250, 2, none⟩ (.int .i64 ((rd_T41 l0 x3_1).f2))).setCell ⟨gb250, 3, none⟩ (.int .i64 ((rd_T41 l0 x3_1).f3))) = w19 at n0_ n1_ ⊢
             have BK250 := n0_; have HB := n1_; clear n0_ n1_
             have n0_ := Aside0.mk (blk_drew BK250.out)
             have n1_ := Aside0.mk (below_drew1 HB.out)
             clear BK250; clear HB; have BK250 := n0_; have HB := n1_; clear n0_ n1_
             have p255 : 0 ≤ ((ji16) : Int) := od_
             have q255 : (ji16) < (l0.length : Int) := od_
             obtain ⟨ad255, e255, hx255_0, hx255_1, hx255_2, hx255_3⟩ := at_T41 HR0.out (ji16) p255 q255
             have hw255_3 := hx255_3; have hw255_2 := hx255_2; have hw255_1 := hx255_1; have hw255_0 := hx255_0
             obtain rfl : ad249 = ad255 := (by injection e255)
             replace hx255_0 := (HB.out.cell (World.block_lt_of_cell? w _ hx255_0)).trans hx255_0
             replace hx255_1 := (HB.out.cell (World.block_lt_of_cell? w _ hx255_1)).trans hx255_1
             replace hx255_2 := (HB.out.cell (World.block_lt_of_cell? w _ hx255_2)).trans hx255_2
             replace hx255_3 := (HB.out.cell (World.block_lt_of_cell? w _ hx255_3)).trans hx255_3
             replace p255 := eq_true p255
             replace q255 := eq_true q255
             refine start_ (n := 37) (S := fun w' => w'.cell? ⟨gb250, 0, none⟩ = some (.int .i64 ((rd_T41 l0 x3_1).f0)) ∧ w'.cell? ⟨gb250, 1, none⟩ = some (.string ((rd_T41 l0 x3_1).f1)) ∧ w'.cell? ⟨gb250, 2, none⟩ = some (.int .i64 ((rd_T41 l0 x3_1).f2)) ∧ w'.cell? ⟨gb250, 3, none⟩ = some (.int .i64 ((rd_T41 l0 x3_1).f3)) ∧ w'.cell? (ad249.add (((ji16)).toNat * 4)) = some (.int .i64 ((rd_T41 l0 (ji16)).f0)) ∧ w'.cell? ⟨(ad249.add (((ji16)).toNat * 4)).block, (ad249.add (((ji16)).toNat * 4)).off + 1, none⟩ = some (.string ((rd_T41 l0 (ji16)).f1)) ∧ w'.cell? ⟨(ad249.add (((ji16)).toNat * 4)).block, (ad249.add (((ji16)).toNat * 4)).off + 2, none⟩ = some (.int .i64 ((rd_T41 l0 (ji16)).f2)) ∧ w'.cell? ⟨(ad249.add (((ji16)).toNat * 4)).block, (ad249.add (((ji16)).toNat * 4)).off + 3, none⟩ = some (.int .i64 ((rd_T41 l0 (ji16)).f3))) (ds := []) #[F,F,F,F,F,F,F,F,F,F,F,F,F,F,F,F,F,F,F,F,F,F,F,F,F,F,F,F,F,F,F,F,F,F,F,F,F] (by kernel_rfl) rfl rfl ⟨(blk_cell BK250.out 0).trans rfl, (blk_cell BK250.out 1).trans rfl, (blk_cell BK250.out 2).trans rfl, (blk_cell BK250.out 3).trans rfl, ((HB.out.cell (World.block_lt_of_cell? w _ hw255_0)).trans hw255_0), ((HB.out.cell (World.block_lt_of_cell? w _ hw255_1)).trans hw255_1), ((HB.out.cell (World.block_lt_of_cell? w _ hw255_2)).trans hw255_2), ((HB.out.cell (World.block_lt_of_cell? w _ hw255_3)).trans hw255_3)⟩ (fun hHeld => ?_); refine with_tabW spec_l5Good.tab5 spec_l5Good.bits5 (fun HT_ HW_ => ?_)
             generalize w19.drew = w20 at BK250 HB hx255_0 hx255_1 hx255_2 hx255_3 hHeld ⊢
             refine pv_ 0 (some 16) #[T,F,F,F,F,F,F,F,F,F,F,F,F,F,F,F,F,F,F,F,F,F,F,F,F,F,F,F,F,F,F,F,F,F,F,F,F] HT_.out ?_
             refine tv8_ 1 (some 17) #[T,T,F,F,F,F,F,F,F,F,F,F,F,F,F,F,F,F,F,F,F,F,F,F,F,F,F,F,F,F,F,F,F,F,F,F,F] HT_.out HW_.out hHeld ?_
             refine one_ (i := 2) (N := some 18) #[T,T,T,F,F,F,F,F,F,F,F,F,F,F,F,F,F,F,F,F,F,F,F,F,F,F,F,F,F,F,F,F,F,F,F,F,F] rfl rfl (one_of HT_.out (by kernel_rfl)) (by decide) (fun K hK => ?_)
             refine goes_ Tryz.func65 (by kernel_rfl) rfl #[.int .i64 ((rd_T41 l0 x3_1).f0), .int .i64 1, .int .i64 99] (by rfl) rfl rfl gl_ ?_
             with_reducible refine (spec_l1In.calls ((rd_T41 l0 x3_1).f0) 1 99 true _ A7.out).mono ?_
             rintro e w' ⟨rfl, ⟨nd, rfl⟩⟩
             refine ⟨_, rfl, ?_⟩
             refine hK.out _ _ ⟨(blk_cell BK250.out 0).trans rfl, (blk_cell BK250.out 1).trans rfl, (blk_cell BK250.out 2).trans rfl, (blk_cell BK250.out 3).trans rfl, ((HB.out.cell (World.block_lt_of_cell? w _ hw255_0)).trans hw255_0), ((HB.out.cell (World.block_lt_of_cell? w _ hw255_1)).trans hw255_1), ((HB.out.cell (World.block_lt_of_cell? w _ hw255_2)).trans hw255_2), ((HB.out.cell (World.block_lt_of_cell? w _ hw255_3)).trans hw255_3)⟩ (fun hHeld => ?_)
             clear hK K
             refine nm_ (some 18) ?_
             refine pv_ 3 (some 19) #[T,T,T,T,F,F,F,F,F,F,F,F,F,F,F,F,F,F,F,F,F,F,F,F,F,F,F,F,F,F,F,F,F,F,F,F,F] HT_.out ?_
             refine pv_ 4 (some 20) #[T,T,T,T,T,F,F,F,F,F,F,F,F,F,F,F,F,F,F,F,F,F,F,F,F,F,F,F,F,F,F,F,F,F,F,F,F] HT_.out ?_
             refine pv_ 5 (some 21) #[T,T,T,T,T,T,F,F,F,F,F,F,F,F,F,F,F,F,F,F,F,F,F,F,F,F,F,F,F,F,F,F,F,F,F,F,F] HT_.out ?_
             refine tv8_ 6 (some 22) #[T,T,T,T,T,T,T,F,F,F,F,F,F,F,F,F,F,F,F,F,F,F,F,F,F,F,F,F,F,F,F,F,F,F,F,F,F] HT_.out HW_.out hHeld ?_
             refine one_ (i := 7) (N := some 23) #[T,T,T,T,T,T,T,T,F,F,F,F,F,F,F,F,F,F,F,F,F,F,F,F,F,F,F,F,F,F,F,F,F,F,F,F,F] rfl rfl (one_of HT_.out (by kernel_rfl)) (by decide) (fun K hK => ?_)
             refine goes_ Tryz.func66 (by kernel_rfl) rfl #[.string ((rd_T41 l0 x3_1).f1)] (by rfl) rfl rfl gl_ ?_
             with_reducible refine (spec_l2Word.calls k1 ((rd_T41 l0 x3_1).f1) true _ A9.out).mono ?_
             rintro e w' ⟨rfl, ⟨nd, rfl⟩⟩
             refine ⟨_, rfl, ?_⟩
             refine hK.out _ _ ⟨(blk_cell BK250.out 0).trans rfl, (blk_cell BK250.out 1).trans rfl, (blk_cell BK250.out 2).trans rfl, (blk_cell BK250.out 3).trans rfl, ((HB.out.cell (World.block_lt_of_cell? w _ hw255_0)).trans hw255_0), ((HB.out.cell (World.block_lt_of_cell? w _ hw255_1)).trans hw255_1), ((HB.out.cell (World.block_lt_of_cell? w _ hw255_2)).trans hw255_2), ((HB.out.cell (World.block_lt_of_cell? w _ hw255_3)).trans hw255_3)⟩ (fun hHeld => ?_)
             clear hK K
             refine nm_ (some 23) ?_
             refine pv_ 8 (some 24) #[T,T,T,T,T,T,T,T,T,F,F,F,F,F,F,F,F,F,F,F,F,F,F,F,F,F,F,F,F,F,F,F,F,F,F,F,F] HT_.out ?_
             refine pv_ 9 (some 25) #[T,T,T,T,T,T,T,T,T,T,F,F,F,F,F,F,F,F,F,F,F,F,F,F,F,F,F,F,F,F,F,F,F,F,F,F,F] HT_.out ?_
             refine pv_ 10 (some 26) #[T,T,T,T,T,T,T,T,T,T,T,F,F,F,F,F,F,F,F,F,F,F,F,F,F,F,F,F,F,F,F,F,F,F,F,F,F] HT_.out ?_
             refine pv_ 11 (some 27) #[T,T,T,T,T,T,T,T,T,T,T,T,F,F,F,F,F,F,F,F,F,F,F,F,F,F,F,F,F,F,F,F,F,F,F,F,F] HT_.out ?_
             refine tv8_ 12 (some 28) #[T,T,T,T,T,T,T,T,T,T,T,T,T,F,F,F,F,F,F,F,F,F,F,F,F,F,F,F,F,F,F,F,F,F,F,F,F] HT_.out HW_.out hHeld ?_
             refine one_ (i := 13) (N := some 29) #[T,T,T,T,T,T,T,T,T,T,T,T,T,T,F,F,F,F,F,F,F,F,F,F,F,F,F,F,F,F,F,F,F,F,F,F,F] rfl rfl (one_of HT_.out (by kernel_rfl)) (by decide) (fun K hK => ?_)
             refine goes_ Tryz.func39 (by kernel_rfl) rfl #[.int .i64 ((rd_T41 l0 x3_1).f2)] (by rfl) rfl rfl gl_ ?_
             with_reducible refine (spec_l5Skills.calls ((rd_T41 l0 x3_1).f2) true _ A11.out).mono ?_
             rintro e w' ⟨rfl, ⟨nd, rfl⟩⟩
             refine ⟨_, rfl, ?_⟩
             refine hK.out _ _ ⟨(blk_cell BK250.out 0).trans rfl, (blk_cell BK250.out 1).trans rfl, (blk_cell BK250.out 2).trans rfl, (blk_cell BK250.out 3).trans rfl, ((HB.out.cell (World.block_lt_of_cell? w _ hw255_0)).trans hw255_0), ((HB.out.cell (World.block_lt_of_cell? w _ hw255_1)).trans hw255_1), ((HB.out.cell (World.block_lt_of_cell? w _ hw255_2)).trans hw255_2), ((HB.out.cell (World.block_lt_of_cell? w _ hw255_3)).trans hw255_3)⟩ (fun hHeld => ?_)
             clear hK K
             refine nm_ (some 29) ?_
             refine pv_ 14 (some 30) #[T,T,T,T,T,T,T,T,T,T,T,T,T,T,T,F,F,F,F,F,F,F,F,F,F,F,F,F,F,F,F,F,F,F,F,F,F] HT_.out ?_
             refine pv_ 15 (some 31) #[T,T,T,T,T,T,T,T,T,T,T,T,T,T,T,T,F,F,F,F,F,F,F,F,F,F,F,F,F,F,F,F,F,F,F,F,F] HT_.out ?_
             refine pv_ 16 (some 32) #[T,T,T,T,T,T,T,T,T,T,T,T,T,T,T,T,T,F,F,F,F,F,F,F,F,F,F,F,F,F,F,F,F,F,F,F,F] HT_.out ?_
             refine pv_ 17 (some 33) #[T,T,T,T,T,T,T,T,T,T,T,T,T,T,T,T,T,T,F,F,F,F,F,F,F,F,F,F,F,F,F,F,F,F,F,F,F] HT_.out ?_
             refine tv8_ 18 (some 34) #[T,T,T,T,T,T,T,T,T,T,T,T,T,T,T,T,T,T,T,F,F,F,F,F,F,F,F,F,F,F,F,F,F,F,F,F,F] HT_.out HW_.out hHeld ?_
             refine one_ (i := 19) (N := some 35) #[T,T,T,T,T,T,T,T,T,T,T,T,T,T,T,T,T,T,T,T,F,F,F,F,F,F,F,F,F,F,F,F,F,F,F,F,F] rfl rfl (one_of HT_.out (by kernel_rfl)) (by decide) (fun K hK => ?_)
             refine goes_ Tryz.func65 (by kernel_rfl) rfl #[.int .i64 ((rd_T41 l0 x3_1).f3), .int .i64 0, .int .i64 500] (by rfl) rfl rfl gl_ ?_
             with_reducible refine (spec_l1In.calls ((rd_T41 l0 x3_1).f3) 0 500 true _ A13.out).mono ?_
             rintro e w' ⟨rfl, ⟨nd, rfl⟩⟩
             refine ⟨_, rfl, ?_⟩
             refine hK.out _ _ ⟨(blk_cell BK250.out 0).trans rfl, (blk_cell BK250.out 1).trans rfl, (blk_cell BK250.out 2).trans rfl, (blk_cell BK250.out 3).trans rfl, ((HB.out.cell (World.block_lt_of_cell? w _ hw255_0)).trans hw255_0), ((HB.out.cell (World.block_lt_of_cell? w _ hw255_1)).trans hw255_1), ((HB.out.cell (World.block_lt_of_cell? w _ hw255_2)).trans hw255_2), ((HB.out.cell (World.block_lt_of_cell? w _ hw255_3)).trans hw255_3)⟩ (fun hHeld => ?_)
             clear hK K
             refine nm_ (some 35) ?_
             refine pv_ 20 (some 36) #[T,T,T,T,T,T,T,T,T,T,T,T,T,T,T,T,T,T,T,T,T,F,F,F,F,F,F,F,F,F,F,F,F,F,F,F,F] HT_.out ?_
             refine pv_ 21 (some 37) #[T,T,T,T,T,T,T,T,T,T,T,T,T,T,T,T,T,T,T,T,T,T,F,F,F,F,F,F,F,F,F,F,F,F,F,F,F] HT_.out ?_
             refine pv_ 22 (some 38) #[T,T,T,T,T,T,T,T,T,T,T,T,T,T,T,T,T,T,T,T,T,T,T,F,F,F,F,F,F,F,F,F,F,F,F,F,F] HT_.out ?_
             refine pv_ 23 (some 39) #[T,T,T,T,T,T,T,T,T,T,T,T,T,T,T,T,T,T,T,T,T,T,T,T,F,F,F,F,F,F,F,F,F,F,F,F,F] HT_.out ?_
             refine pv_ 24 (some 40) #[T,T,T,T,T,T,T,T,T,T,T,T,T,T,T,T,T,T,T,T,T,T,T,T,T,F,F,F,F,F,F,F,F,F,F,F,F] HT_.out ?_
             refine pv_ 25 (some 41) #[T,T,T,T,T,T,T,T,T,T,T,T,T,T,T,T,T,T,T,T,T,T,T,T,T,T,F,F,F,F,F,F,F,F,F,F,F] HT_.out ?_
             refine pv_ 26 (some 42) #[T,T,T,T,T,T,T,T,T,T,T,T,T,T,T,T,T,T,T,T,T,T,T,T,T,T,T,F,F,F,F,F,F,F,F,F,F] HT_.out ?_
             refine pv_ 27 (some 43) #[T,T,T,T,T,T,T,T,T,T,T,T,T,T,T,T,T,T,T,T,T,T,T,T,T,T,T,T,F,F,F,F,F,F,F,F,F] HT_.out ?_
             refine pv_ 28 (some 44) #[T,T,T,T,T,T,T,T,T,T,T,T,T,T,T,T,T,T,T,T,T,T,T,T,T,T,T,T,T,F,F,F,F,F,F,F,F] HT_.out ?_
             refine pv_ 29 (some 45) #[T,T,T,T,T,T,T,T,T,T,T,T,T,T,T,T,T,T,T,T,T,T,T,T,T,T,T,T,T,T,F,F,F,F,F,F,F] HT_.out ?_
             refine pv_ 30 (some 46) #[T,T,T,T,T,T,T,T,T,T,T,T,T,T,T,T,T,T,T,T,T,T,T,T,T,T,T,T,T,T,T,F,F,F,F,F,F] HT_.out ?_
             refine pv_ 32 (some 48) #[T,T,T,T,T,T,T,T,T,T,T,T,T,T,T,T,T,T,T,T,T,T,T,T,T,T,T,T,T,T,T,F,T,F,F,F,F] HT_.out ?_
             refine tv8_ 31 (some 47) #[T,T,T,T,T,T,T,T,T,T,T,T,T,T,T,T,T,T,T,T,T,T,T,T,T,T,T,T,T,T,T,T,T,F,F,F,F] HT_.out HW_.out hHeld ?_
             refine tv8_ 33 (some 49) #[T,T,T,T,T,T,T,T,T,T,T,T,T,T,T,T,T,T,T,T,T,T,T,T,T,T,T,T,T,T,T,T,T,T,F,F,F] HT_.out HW_.out hHeld ?_
             refine pv_ 34 (some 50) #[T,T,T,T,T,T,T,T,T,T,T,T,T,T,T,T,T,T,T,T,T,T,T,T,T,T,T,T,T,T,T,T,T,T,T,F,F] HT_.out ?_
             refine pv_ 35 (some 51) #[T,T,T,T,T,T,T,T,T,T,T,T,T,T,T,T,T,T,T,T,T,T,T,T,T,T,T,T,T,T,T,T,T,T,T,T,F] HT_.out ?_
             refine pv_ 36 (some 52) #[T,T,T,T,T,T,T,T,T,T,T,T,T,T,T,T,T,T,T,T,T,T,T,T,T,T,T,T,T,T,T,T,T,T,T,T,T] HT_.out ?_
             refine done_ (done_of HT_.out (by kernel_rfl)) ?_
             try go_wp2
             go_meet
             case rel => exact ⟨_, (decide (((rd_T41 l0 (ji16)).f0) ≥ ((rd_T41 l0 x3_1).f0))), (by first | rfl | (simp; done) | (simp only [← hji16] <;> (first | rfl | simp)) | (simp [*]; done)), H', ⟨by have := HK1.out; first | omega | exact Nat.le_refl _⟩, ⟨z19_⟩, ⟨z13_⟩⟩
            ·rw [if_neg c18] at H
             exact absurd H (by simp)
           ·rw [if_neg c17] at H
            exact absurd H (by simp)
          ·rw [if_neg c15] at H
           have c15b0 : decide (0 < x3_1) = false := decide_eq_false c15
           clear c15
           (first | rw [c15b0] | (simp only [i64_w, i32_w]; rw [c15b0]) | skip)
           have H' := Aside0.mk H
           clear H
           try go_wp2
           have n0_ : Aside0 (((((w5.setCell ⟨gb250, 0, none⟩ (.int .i64 ((rd_T41 l0 x3_1).f0))).setCell ⟨gb250, 1, none⟩ (.string ((rd_T41 l0 x3_1).f1))).setCell ⟨gb250, 2, none⟩ (.int .i64 ((rd_T41 l0 x3_1).f2))).setCell ⟨gb250, 3, none⟩ (.int .i64 ((rd_T41 l0 x3_1).f3))).heap[gb250]? = some (.cells #[.int .i64 ((rd_T41 l0 x3_1).f0), .string ((rd_T41 l0 x3_1).f1), .int .i64 ((rd_T41 l0 x3_1).f2), .int .i64 ((rd_T41 l0 x3_1).f3)] 41 (0, 0))) := ⟨z25_⟩
           have n1_ : Aside0 (Below w.heap.size w ((((w5.setCell ⟨gb250, 0, none⟩ (.int .i64 ((rd_T41 l0 x3_1).f0))).setCell ⟨gb250, 1, none⟩ (.string ((rd_T41 l0 x3_1).f1))).setCell ⟨gb250, 2, none⟩ (.int .i64 ((rd_T41 l0 x3_1).f2))).setCell ⟨gb250, 3, none⟩ (.int .i64 ((rd_T41 l0 x3_1).f3)))) := ⟨z13_⟩
           (try clear BK250); (try clear HB)
           generalize ((((w5.setCell ⟨gb250, 0, none⟩ (.int .i64 ((rd_T41 l0 x3_1).f0))).setCell ⟨gb250, 1, none⟩ (.string ((rd_T41 l0 x3_1).f1))).setCell ⟨gb250, 2, none⟩ (.int .i64 ((rd_T41 l0 x3_1).f2))).setCell ⟨gb250, 3, none⟩ (.int .i64 ((rd_T41 l0 x3_1).f3))) = w21 at n0_ n1_ ⊢
           have BK250 := n0_; have HB := n1_; clear n0_ n1_
           have n0_ := Aside0.mk (blk_drew BK250.out)
           have n1_ := Aside0.mk (below_drew1 HB.out)
           clear BK250; clear HB; have BK250 := n0_; have HB := n1_; clear n0_ n1_
           refine start_ (n := 37) (S := fun w' => w'.cell? ⟨gb250, 0, none⟩ = some (.int .i64 ((rd_T41 l0 x3_1).f0)) ∧ w'.cell? ⟨gb250, 1, none⟩ = some (.string ((rd_T41 l0 x3_1).f1)) ∧ w'.cell? ⟨gb250, 2, none⟩ = some (.int .i64 ((rd_T41 l0 x3_1).f2)) ∧ w'.cell? ⟨gb250, 3, none⟩ = some (.int .i64 ((rd_T41 l0 x3_1).f3))) (ds := []) #[F,F,F,F,F,F,F,F,F,F,F,F,F,F,F,F,F,F,F,F,F,F,F,F,F,F,F,F,F,F,F,F,F,F,F,F,F] (by kernel_rfl) rfl rfl ⟨(blk_cell BK250.out 0).trans rfl, (blk_cell BK250.out 1).trans rfl, (blk_cell BK250.out 2).trans rfl, (blk_cell BK250.out 3).trans rfl⟩ (fun hHeld => ?_); refine with_tabW spec_l5Good.tab5 spec_l5Good.bits5 (fun HT_ HW_ => ?_)
           generalize w21.drew = w22 at BK250 HB hHeld ⊢
           refine pv_ 0 (some 16) #[T,F,F,F,F,F,F,F,F,F,F,F,F,F,F,F,F,F,F,F,F,F,F,F,F,F,F,F,F,F,F,F,F,F,F,F,F] HT_.out ?_
           refine tv4_ 1 (some 17) #[T,T,F,F,F,F,F,F,F,F,F,F,F,F,F,F,F,F,F,F,F,F,F,F,F,F,F,F,F,F,F,F,F,F,F,F,F] HT_.out HW_.out hHeld ?_
           refine one_ (i := 2) (N := some 18) #[T,T,T,F,F,F,F,F,F,F,F,F,F,F,F,F,F,F,F,F,F,F,F,F,F,F,F,F,F,F,F,F,F,F,F,F,F] rfl rfl (one_of HT_.out (by kernel_rfl)) (by decide) (fun K hK => ?_)
           refine goes_ Tryz.func65 (by kernel_rfl) rfl #[.int .i64 ((rd_T41 l0 x3_1).f0), .int .i64 1, .int .i64 99] (by rfl) rfl rfl gl_ ?_
           with_reducible refine (spec_l1In.calls ((rd_T41 l0 x3_1).f0) 1 99 true _ A7.out).mono ?_
           rintro e w' ⟨rfl, ⟨nd, rfl⟩⟩
           refine ⟨_, rfl, ?_⟩
           refine hK.out _ _ ⟨(blk_cell BK250.out 0).trans rfl, (blk_cell BK250.out 1).trans rfl, (blk_cell BK250.out 2).trans rfl, (blk_cell BK250.out 3).trans rfl⟩ (fun hHeld => ?_)
           clear hK K
           refine nm_ (some 18) ?_
           refine pv_ 3 (some 19) #[T,T,T,T,F,F,F,F,F,F,F,F,F,F,F,F,F,F,F,F,F,F,F,F,F,F,F,F,F,F,F,F,F,F,F,F,F] HT_.out ?_
           refine pv_ 4 (some 20) #[T,T,T,T,T,F,F,F,F,F,F,F,F,F,F,F,F,F,F,F,F,F,F,F,F,F,F,F,F,F,F,F,F,F,F,F,F] HT_.out ?_
           refine pv_ 5 (some 21) #[T,T,T,T,T,T,F,F,F,F,F,F,F,F,F,F,F,F,F,F,F,F,F,F,F,F,F,F,F,F,F,F,F,F,F,F,F] HT_.out ?_
           refine tv4_ 6 (some 22) #[T,T,T,T,T,T,T,F,F,F,F,F,F,F,F,F,F,F,F,F,F,F,F,F,F,F,F,F,F,F,F,F,F,F,F,F,F] HT_.out HW_.out hHeld ?_
           refine one_ (i := 7) (N := some 23) #[T,T,T,T,T,T,T,T,F,F,F,F,F,F,F,F,F,F,F,F,F,F,F,F,F,F,F,F,F,F,F,F,F,F,F,F,F] rfl rfl (one_of HT_.out (by kernel_rfl)) (by decide) (fun K hK => ?_)
           refine goes_ Tryz.func66 (by kernel_rfl) rfl #[.string ((rd_T41 l0 x3_1).f1)] (by rfl) rfl rfl gl_ ?_
           with_reducible refine (spec_l2Word.calls k1 ((rd_T41 l0 x3_1).f1) true _ A9.out).mono ?_
           rintro e w' ⟨rfl, ⟨nd, rfl⟩⟩
           refine ⟨_, rfl, ?_⟩
           refine hK.out _ _ ⟨(blk_cell BK250.out 0).trans rfl, (blk_cell BK250.out 1).trans rfl, (blk_cell BK250.out 2).trans rfl, (blk_cell BK250.out 3).trans rfl⟩ (fun hHeld => ?_)
           clear hK K
           refine nm_ (some 23) ?_
           refine pv_ 8 (some 24) #[T,T,T,T,T,T,T,T,T,F,F,F,F,F,F,F,F,F,F,F,F,F,F,F,F,F,F,F,F,F,F,F,F,F,F,F,F] HT_.out ?_
           refine pv_ 9 (some 25) #[T,T,T,T,T,T,T,T,T,T,F,F,F,F,F,F,F,F,F,F,F,F,F,F,F,F,F,F,F,F,F,F,F,F,F,F,F] HT_.out ?_
           refine pv_ 10 (some 26) #[T,T,T,T,T,T,T,T,T,T,T,F,F,F,F,F,F,F,F,F,F,F,F,F,F,F,F,F,F,F,F,F,F,F,F,F,F] HT_.out ?_
           refine pv_ 11 (some 27) #[T,T,T,T,T,T,T,T,T,T,T,T,F,F,F,F,F,F,F,F,F,F,F,F,F,F,F,F,F,F,F,F,F,F,F,F,F] HT_.out ?_
           refine tv4_ 12 (some 28) #[T,T,T,T,T,T,T,T,T,T,T,T,T,F,F,F,F,F,F,F,F,F,F,F,F,F,F,F,F,F,F,F,F,F,F,F,F] HT_.out HW_.out hHeld ?_
           refine one_ (i := 13) (N := some 29) #[T,T,T,T,T,T,T,T,T,T,T,T,T,T,F,F,F,F,F,F,F,F,F,F,F,F,F,F,F,F,F,F,F,F,F,F,F] rfl rfl (one_of HT_.out (by kernel_rfl)) (by decide) (fun K hK => ?_)
           refine goes_ Tryz.func39 (by kernel_rfl) rfl #[.int .i64 ((rd_T41 l0 x3_1).f2)] (by rfl) rfl rfl gl_ ?_
           with_reducible refine (spec_l5Skills.calls ((rd_T41 l0 x3_1).f2) true _ A11.out).mono ?_
           rintro e w' ⟨rfl, ⟨nd, rfl⟩⟩
           refine ⟨_, rfl, ?_⟩
           refine hK.out _ _ ⟨(blk_cell BK250.out 0).trans rfl, (blk_cell BK250.out 1).trans rfl, (blk_cell BK250.out 2).trans rfl, (blk_cell BK250.out 3).trans rfl⟩ (fun hHeld => ?_)
           clear hK K
           refine nm_ (some 29) ?_
           refine pv_ 14 (some 30) #[T,T,T,T,T,T,T,T,T,T,T,T,T,T,T,F,F,F,F,F,F,F,F,F,F,F,F,F,F,F,F,F,F,F,F,F,F] HT_.out ?_
           refine pv_ 15 (some 31) #[T,T,T,T,T,T,T,T,T,T,T,T,T,T,T,T,F,F,F,F,F,F,F,F,F,F,F,F,F,F,F,F,F,F,F,F,F] HT_.out ?_
           refine pv_ 16 (some 32) #[T,T,T,T,T,T,T,T,T,T,T,T,T,T,T,T,T,F,F,F,F,F,F,F,F,F,F,F,F,F,F,F,F,F,F,F,F] HT_.out ?_
           refine pv_ 17 (some 33) #[T,T,T,T,T,T,T,T,T,T,T,T,T,T,T,T,T,T,F,F,F,F,F,F,F,F,F,F,F,F,F,F,F,F,F,F,F] HT_.out ?_
           refine tv4_ 18 (some 34) #[T,T,T,T,T,T,T,T,T,T,T,T,T,T,T,T,T,T,T,F,F,F,F,F,F,F,F,F,F,F,F,F,F,F,F,F,F] HT_.out HW_.out hHeld ?_
           refine one_ (i := 19) (N := some 35) #[T,T,T,T,T,T,T,T,T,T,T,T,T,T,T,T,T,T,T,T,F,F,F,F,F,F,F,F,F,F,F,F,F,F,F,F,F] rfl rfl (one_of HT_.out (by kernel_rfl)) (by decide) (fun K hK => ?_)
           refine goes_ Tryz.func65 (by kernel_rfl) rfl #[.int .i64 ((rd_T41 l0 x3_1).f3), .int .i64 0, .int .i64 500] (by rfl) rfl rfl gl_ ?_
           with_reducible refine (spec_l1In.calls ((rd_T41 l0 x3_1).f3) 0 500 true _ A13.out).mono ?_
           rintro e w' ⟨rfl, ⟨nd, rfl⟩⟩
           refine ⟨_, rfl, ?_⟩
           refine hK.out _ _ ⟨(blk_cell BK250.out 0).trans rfl, (blk_cell BK250.out 1).trans rfl, (blk_cell BK250.out 2).trans rfl, (blk_cell BK250.out 3).trans rfl⟩ (fun hHeld => ?_)
           clear hK K
           refine nm_ (some 35) ?_
           refine pv_ 20 (some 36) #[T,T,T,T,T,T,T,T,T,T,T,T,T,T,T,T,T,T,T,T,T,F,F,F,F,F,F,F,F,F,F,F,F,F,F,F,F] HT_.out ?_
           refine pv_ 21 (some 37) #[T,T,T,T,T,T,T,T,T,T,T,T,T,T,T,T,T,T,T,T,T,T,F,F,F,F,F,F,F,F,F,F,F,F,F,F,F] HT_.out ?_
           refine pv_ 22 (some 38) #[T,T,T,T,T,T,T,T,T,T,T,T,T,T,T,T,T,T,T,T,T,T,T,F,F,F,F,F,F,F,F,F,F,F,F,F,F] HT_.out ?_
           refine pv_ 23 (some 39) #[T,T,T,T,T,T,T,T,T,T,T,T,T,T,T,T,T,T,T,T,T,T,T,T,F,F,F,F,F,F,F,F,F,F,F,F,F] HT_.out ?_
           refine pv_ 24 (some 40) #[T,T,T,T,T,T,T,T,T,T,T,T,T,T,T,T,T,T,T,T,T,T,T,T,T,F,F,F,F,F,F,F,F,F,F,F,F] HT_.out ?_
           refine pv_ 25 (some 41) #[T,T,T,T,T,T,T,T,T,T,T,T,T,T,T,T,T,T,T,T,T,T,T,T,T,T,F,F,F,F,F,F,F,F,F,F,F] HT_.out ?_
           refine pu_ 26 (some 42) #[T,T,T,T,T,T,T,T,T,T,T,T,T,T,T,T,T,T,T,T,T,T,T,T,T,T,T,F,F,F,F,F,F,F,F,F,F] HT_.out ?_
           refine pu_ 27 (some 43) #[T,T,T,T,T,T,T,T,T,T,T,T,T,T,T,T,T,T,T,T,T,T,T,T,T,T,T,T,F,F,F,F,F,F,F,F,F] HT_.out ?_
           refine pu_ 28 (some 44) #[T,T,T,T,T,T,T,T,T,T,T,T,T,T,T,T,T,T,T,T,T,T,T,T,T,T,T,T,T,F,F,F,F,F,F,F,F] HT_.out ?_
           refine pu_ 29 (some 45) #[T,T,T,T,T,T,T,T,T,T,T,T,T,T,T,T,T,T,T,T,T,T,T,T,T,T,T,T,T,T,F,F,F,F,F,F,F] HT_.out ?_
           refine pu_ 30 (some 46) #[T,T,T,T,T,T,T,T,T,T,T,T,T,T,T,T,T,T,T,T,T,T,T,T,T,T,T,T,T,T,T,F,F,F,F,F,F] HT_.out ?_
           refine pu_ 31 (some 47) #[T,T,T,T,T,T,T,T,T,T,T,T,T,T,T,T,T,T,T,T,T,T,T,T,T,T,T,T,T,T,T,T,F,F,F,F,F] HT_.out ?_
           refine pu_ 32 (some 48) #[T,T,T,T,T,T,T,T,T,T,T,T,T,T,T,T,T,T,T,T,T,T,T,T,T,T,T,T,T,T,T,T,T,F,F,F,F] HT_.out ?_
           refine pu_ 33 (some 49) #[T,T,T,T,T,T,T,T,T,T,T,T,T,T,T,T,T,T,T,T,T,T,T,T,T,T,T,T,T,T,T,T,T,T,F,F,F] HT_.out ?_
           refine pu_ 34 (some 50) #[T,T,T,T,T,T,T,T,T,T,T,T,T,T,T,T,T,T,T,T,T,T,T,T,T,T,T,T,T,T,T,T,T,T,T,F,F] HT_.out ?_
           refine pv_ 35 (some 51) #[T,T,T,T,T,T,T,T,T,T,T,T,T,T,T,T,T,T,T,T,T,T,T,T,T,T,T,T,T,T,T,T,T,T,T,T,F] HT_.out ?_
           refine pv_ 36 (some 52) #[T,T,T,T,T,T,T,T,T,T,T,T,T,T,T,T,T,T,T,T,T,T,T,T,T,T,T,T,T,T,T,T,T,T,T,T,T] HT_.out ?_
           refine done_ (done_of HT_.out (by kernel_rfl)) ?_
           try go_wp2
           go_meet
           case rel => exact ⟨_, (false), z2_, H', ⟨by have := HK1.out; first | omega | exact Nat.le_refl _⟩, ⟨z19_⟩, ⟨z13_⟩⟩
         ·replace c14 := Bool.eq_false_iff.mpr c14
          subst c14
          have H1 : (spec_l5Good.j1 k1 l0 x3_1 true ((rd_T41 l0 x3_1).f0) ((rd_T41 l0 x3_1).f1) ((rd_T41 l0 x3_1).f2) ((rd_T41 l0 x3_1).f3)) = some r := by rw [if_neg (show ¬ (false = true) by decide)] at H; exact H
          clear H; have H := H1; clear H1
          have H' := Aside0.mk H
          clear H
          try go_wp2
          have n0_ : Aside0 (((((w5.setCell ⟨gb250, 0, none⟩ (.int .i64 ((rd_T41 l0 x3_1).f0))).setCell ⟨gb250, 1, none⟩ (.string ((rd_T41 l0 x3_1).f1))).setCell ⟨gb250, 2, none⟩ (.int .i64 ((rd_T41 l0 x3_1).f2))).setCell ⟨gb250, 3, none⟩ (.int .i64 ((rd_T41 l0 x3_1).f3))).heap[gb250]? = some (.cells #[.int .i64 ((rd_T41 l0 x3_1).f0), .string ((rd_T41 l0 x3_1).f1), .int .i64 ((rd_T41 l0 x3_1).f2), .int .i64 ((rd_T41 l0 x3_1).f3)] 41 (0, 0))) := ⟨z25_⟩
          have n1_ : Aside0 (Below w.heap.size w ((((w5.setCell ⟨gb250, 0, none⟩ (.int .i64 ((rd_T41 l0 x3_1).f0))).setCell ⟨gb250, 1, none⟩ (.string ((rd_T41 l0 x3_1).f1))).setCell ⟨gb250, 2, none⟩ (.int .i64 ((rd_T41 l0 x3_1).f2))).setCell ⟨gb250, 3, none⟩ (.int .i64 ((rd_T41 l0 x3_1).f3)))) := ⟨z13_⟩
          (try clear BK250); (try clear HB)
          generalize ((((w5.setCell ⟨gb250, 0, none⟩ (.int .i64 ((rd_T41 l0 x3_1).f0))).setCell ⟨gb250, 1, none⟩ (.string ((rd_T41 l0 x3_1).f1))).setCell ⟨gb250, 2, none⟩ (.int .i64 ((rd_T41 l0 x3_1).f2))).setCell ⟨gb250, 3, none⟩ (.int .i64 ((rd_T41 l0 x3_1).f3))) = w23 at n0_ n1_ ⊢
          have BK250 := n0_; have HB := n1_; clear n0_ n1_
          have n0_ := Aside0.mk (blk_drew BK250.out)
          have n1_ := Aside0.mk (below_drew1 HB.out)
          clear BK250; clear HB; have BK250 := n0_; have HB := n1_; clear n0_ n1_
          refine start_ (n := 37) (S := fun w' => w'.cell? ⟨gb250, 0, none⟩ = some (.int .i64 ((rd_T41 l0 x3_1).f0)) ∧ w'.cell? ⟨gb250, 1, none⟩ = some (.string ((rd_T41 l0 x3_1).f1)) ∧ w'.cell? ⟨gb250, 2, none⟩ = some (.int .i64 ((rd_T41 l0 x3_1).f2)) ∧ w'.cell? ⟨gb250, 3, none⟩ = some (.int .i64 ((rd_T41 l0 x3_1).f3))) (ds := []) #[F,F,F,F,F,F,F,F,F,F,F,F,F,F,F,F,F,F,F,F,F,F,F,F,F,F,F,F,F,F,F,F,F,F,F,F,F] (by kernel_rfl) rfl rfl ⟨(blk_cell BK250.out 0).trans rfl, (blk_cell BK250.out 1).trans rfl, (blk_cell BK250.out 2).trans rfl, (blk_cell BK250.out 3).trans rfl⟩ (fun hHeld => ?_); refine with_tabW spec_l5Good.tab5 spec_l5Good.bits5 (fun HT_ HW_ => ?_)
          generalize w23.drew = w24 at BK250 HB hHeld ⊢
          refine pv_ 0 (some 16) #[T,F,F,F,F,F,F,F,F,F,F,F,F,F,F,F,F,F,F,F,F,F,F,F,F,F,F,F,F,F,F,F,F,F,F,F,F] HT_.out ?_
          refine tv4_ 1 (some 17) #[T,T,F,F,F,F,F,F,F,F,F,F,F,F,F,F,F,F,F,F,F,F,F,F,F,F,F,F,F,F,F,F,F,F,F,F,F] HT_.out HW_.out hHeld ?_
          refine one_ (i := 2) (N := some 18) #[T,T,T,F,F,F,F,F,F,F,F,F,F,F,F,F,F,F,F,F,F,F,F,F,F,F,F,F,F,F,F,F,F,F,F,F,F] rfl rfl (one_of HT_.out (by kernel_rfl)) (by decide) (fun K hK => ?_)
          refine goes_ Tryz.func65 (by kernel_rfl) rfl #[.int .i64 ((rd_T41 l0 x3_1).f0), .int .i64 1, .int .i64 99] (by rfl) rfl rfl gl_ ?_
          with_reducible refine (spec_l1In.calls ((rd_T41 l0 x3_1).f0) 1 99 true _ A7.out).mono ?_
          rintro e w' ⟨rfl, ⟨nd, rfl⟩⟩
          refine ⟨_, rfl, ?_⟩
          refine hK.out _ _ ⟨(blk_cell BK250.out 0).trans rfl, (blk_cell BK250.out 1).trans rfl, (blk_cell BK250.out 2).trans rfl, (blk_cell BK250.out 3).trans rfl⟩ (fun hHeld => ?_)
          clear hK K
          refine nm_ (some 18) ?_
          refine pv_ 3 (some 19) #[T,T,T,T,F,F,F,F,F,F,F,F,F,F,F,F,F,F,F,F,F,F,F,F,F,F,F,F,F,F,F,F,F,F,F,F,F] HT_.out ?_
          refine pv_ 4 (some 20) #[T,T,T,T,T,F,F,F,F,F,F,F,F,F,F,F,F,F,F,F,F,F,F,F,F,F,F,F,F,F,F,F,F,F,F,F,F] HT_.out ?_
          refine pv_ 5 (some 21) #[T,T,T,T,T,T,F,F,F,F,F,F,F,F,F,F,F,F,F,F,F,F,F,F,F,F,F,F,F,F,F,F,F,F,F,F,F] HT_.out ?_
          refine tv4_ 6 (some 22) #[T,T,T,T,T,T,T,F,F,F,F,F,F,F,F,F,F,F,F,F,F,F,F,F,F,F,F,F,F,F,F,F,F,F,F,F,F] HT_.out HW_.out hHeld ?_
          refine one_ (i := 7) (N := some 23) #[T,T,T,T,T,T,T,T,F,F,F,F,F,F,F,F,F,F,F,F,F,F,F,F,F,F,F,F,F,F,F,F,F,F,F,F,F] rfl rfl (one_of HT_.out (by kernel_rfl)) (by decide) (fun K hK => ?_)
          refine goes_ Tryz.func66 (by kernel_rfl) rfl #[.string ((rd_T41 l0 x3_1).f1)] (by rfl) rfl rfl gl_ ?_
          with_reducible refine (spec_l2Word.calls k1 ((rd_T41 l0 x3_1).f1) true _ A9.out).mono ?_
          rintro e w' ⟨rfl, ⟨nd, rfl⟩⟩
          refine ⟨_, rfl, ?_⟩
          refine hK.out _ _ ⟨(blk_cell BK250.out 0).trans rfl, (blk_cell BK250.out 1).trans rfl, (blk_cell BK250.out 2).trans rfl, (blk_cell BK250.out 3).trans rfl⟩ (fun hHeld => ?_)
          clear hK K
          refine nm_ (some 23) ?_
          refine pv_ 8 (some 24) #[T,T,T,T,T,T,T,T,T,F,F,F,F,F,F,F,F,F,F,F,F,F,F,F,F,F,F,F,F,F,F,F,F,F,F,F,F] HT_.out ?_
          refine pv_ 9 (some 25) #[T,T,T,T,T,T,T,T,T,T,F,F,F,F,F,F,F,F,F,F,F,F,F,F,F,F,F,F,F,F,F,F,F,F,F,F,F] HT_.out ?_
          refine pv_ 10 (some 26) #[T,T,T,T,T,T,T,T,T,T,T,F,F,F,F,F,F,F,F,F,F,F,F,F,F,F,F,F,F,F,F,F,F,F,F,F,F] HT_.out ?_
          refine pv_ 11 (some 27) #[T,T,T,T,T,T,T,T,T,T,T,T,F,F,F,F,F,F,F,F,F,F,F,F,F,F,F,F,F,F,F,F,F,F,F,F,F] HT_.out ?_
          refine tv4_ 12 (some 28) #[T,T,T,T,T,T,T,T,T,T,T,T,T,F,F,F,F,F,F,F,F,F,F,F,F,F,F,F,F,F,F,F,F,F,F,F,F] HT_.out HW_.out hHeld ?_
          refine one_ (i := 13) (N := some 29) #[T,T,T,T,T,T,T,T,T,T,T,T,T,T,F,F,F,F,F,F,F,F,F,F,F,F,F,F,F,F,F,F,F,F,F,F,F] rfl rfl (one_of HT_.out (by kernel_rfl)) (by decide) (fun K hK => ?_)
          refine goes_ Tryz.func39 (by kernel_rfl) rfl #[.int .i64 ((rd_T41 l0 x3_1).f2)] (by rfl) rfl rfl gl_ ?_
          with_reducible refine (spec_l5Skills.calls ((rd_T41 l0 x3_1).f2) true _ A11.out).mono ?_
          rintro e w' ⟨rfl, ⟨nd, rfl⟩⟩
          refine ⟨_, rfl, ?_⟩
          refine hK.out _ _ ⟨(blk_cell BK250.out 0).trans rfl, (blk_cell BK250.out 1).trans rfl, (blk_cell BK250.out 2).trans rfl, (blk_cell BK250.out 3).trans rfl⟩ (fun hHeld => ?_)
          clear hK K
          refine nm_ (some 29) ?_
          refine pv_ 14 (some 30) #[T,T,T,T,T,T,T,T,T,T,T,T,T,T,T,F,F,F,F,F,F,F,F,F,F,F,F,F,F,F,F,F,F,F,F,F,F] HT_.out ?_
          refine pv_ 15 (some 31) #[T,T,T,T,T,T,T,T,T,T,T,T,T,T,T,T,F,F,F,F,F,F,F,F,F,F,F,F,F,F,F,F,F,F,F,F,F] HT_.out ?_
          refine pv_ 16 (some 32) #[T,T,T,T,T,T,T,T,T,T,T,T,T,T,T,T,T,F,F,F,F,F,F,F,F,F,F,F,F,F,F,F,F,F,F,F,F] HT_.out ?_
          refine pv_ 17 (some 33) #[T,T,T,T,T,T,T,T,T,T,T,T,T,T,T,T,T,T,F,F,F,F,F,F,F,F,F,F,F,F,F,F,F,F,F,F,F] HT_.out ?_
          refine tv4_ 18 (some 34) #[T,T,T,T,T,T,T,T,T,T,T,T,T,T,T,T,T,T,T,F,F,F,F,F,F,F,F,F,F,F,F,F,F,F,F,F,F] HT_.out HW_.out hHeld ?_
          refine one_ (i := 19) (N := some 35) #[T,T,T,T,T,T,T,T,T,T,T,T,T,T,T,T,T,T,T,T,F,F,F,F,F,F,F,F,F,F,F,F,F,F,F,F,F] rfl rfl (one_of HT_.out (by kernel_rfl)) (by decide) (fun K hK => ?_)
          refine goes_ Tryz.func65 (by kernel_rfl) rfl #[.int .i64 ((rd_T41 l0 x3_1).f3), .int .i64 0, .int .i64 500] (by rfl) rfl rfl gl_ ?_
          with_reducible refine (spec_l1In.calls ((rd_T41 l0 x3_1).f3) 0 500 false _ A13.out).mono ?_
          rintro e w' ⟨rfl, ⟨nd, rfl⟩⟩
          refine ⟨_, rfl, ?_⟩
          refine hK.out _ _ ⟨(blk_cell BK250.out 0).trans rfl, (blk_cell BK250.out 1).trans rfl, (blk_cell BK250.out 2).trans rfl, (blk_cell BK250.out 3).trans rfl⟩ (fun hHeld => ?_)
          clear hK K
          refine nm_ (some 35) ?_
          refine pv_ 20 (some 36) #[T,T,T,T,T,T,T,T,T,T,T,T,T,T,T,T,T,T,T,T,T,F,F,F,F,F,F,F,F,F,F,F,F,F,F,F,F] HT_.out ?_
          refine pv_ 21 (some 37) #[T,T,T,T,T,T,T,T,T,T,T,T,T,T,T,T,T,T,T,T,T,T,F,F,F,F,F,F,F,F,F,F,F,F,F,F,F] HT_.out ?_
          refine pv_ 22 (some 38) #[T,T,T,T,T,T,T,T,T,T,T,T,T,T,T,T,T,T,T,T,T,T,T,F,F,F,F,F,F,F,F,F,F,F,F,F,F] HT_.out ?_
          refine pu_ 23 (some 39) #[T,T,T,T,T,T,T,T,T,T,T,T,T,T,T,T,T,T,T,T,T,T,T,T,F,F,F,F,F,F,F,F,F,F,F,F,F] HT_.out ?_
          refine pu_ 24 (some 40) #[T,T,T,T,T,T,T,T,T,T,T,T,T,T,T,T,T,T,T,T,T,T,T,T,T,F,F,F,F,F,F,F,F,F,F,F,F] HT_.out ?_
          refine pu_ 25 (some 41) #[T,T,T,T,T,T,T,T,T,T,T,T,T,T,T,T,T,T,T,T,T,T,T,T,T,T,F,F,F,F,F,F,F,F,F,F,F] HT_.out ?_
          refine pu_ 26 (some 42) #[T,T,T,T,T,T,T,T,T,T,T,T,T,T,T,T,T,T,T,T,T,T,T,T,T,T,T,F,F,F,F,F,F,F,F,F,F] HT_.out ?_
          refine pu_ 27 (some 43) #[T,T,T,T,T,T,T,T,T,T,T,T,T,T,T,T,T,T,T,T,T,T,T,T,T,T,T,T,F,F,F,F,F,F,F,F,F] HT_.out ?_
          refine pu_ 28 (some 44) #[T,T,T,T,T,T,T,T,T,T,T,T,T,T,T,T,T,T,T,T,T,T,T,T,T,T,T,T,T,F,F,F,F,F,F,F,F] HT_.out ?_
          refine pu_ 29 (some 45) #[T,T,T,T,T,T,T,T,T,T,T,T,T,T,T,T,T,T,T,T,T,T,T,T,T,T,T,T,T,T,F,F,F,F,F,F,F] HT_.out ?_
          refine pu_ 30 (some 46) #[T,T,T,T,T,T,T,T,T,T,T,T,T,T,T,T,T,T,T,T,T,T,T,T,T,T,T,T,T,T,T,F,F,F,F,F,F] HT_.out ?_
          refine pu_ 31 (some 47) #[T,T,T,T,T,T,T,T,T,T,T,T,T,T,T,T,T,T,T,T,T,T,T,T,T,T,T,T,T,T,T,T,F,F,F,F,F] HT_.out ?_
          refine pu_ 32 (some 48) #[T,T,T,T,T,T,T,T,T,T,T,T,T,T,T,T,T,T,T,T,T,T,T,T,T,T,T,T,T,T,T,T,T,F,F,F,F] HT_.out ?_
          refine pu_ 33 (some 49) #[T,T,T,T,T,T,T,T,T,T,T,T,T,T,T,T,T,T,T,T,T,T,T,T,T,T,T,T,T,T,T,T,T,T,F,F,F] HT_.out ?_
          refine pu_ 34 (some 50) #[T,T,T,T,T,T,T,T,T,T,T,T,T,T,T,T,T,T,T,T,T,T,T,T,T,T,T,T,T,T,T,T,T,T,T,F,F] HT_.out ?_
          refine pu_ 35 (some 51) #[T,T,T,T,T,T,T,T,T,T,T,T,T,T,T,T,T,T,T,T,T,T,T,T,T,T,T,T,T,T,T,T,T,T,T,T,F] HT_.out ?_
          refine pv_ 36 (some 52) #[T,T,T,T,T,T,T,T,T,T,T,T,T,T,T,T,T,T,T,T,T,T,T,T,T,T,T,T,T,T,T,T,T,T,T,T,T] HT_.out ?_
          refine done_ (done_of HT_.out (by kernel_rfl)) ?_
          try go_wp2
          go_meet
          case rel => exact ⟨_, (true), z2_, H', ⟨by have := HK1.out; first | omega | exact Nat.le_refl _⟩, ⟨z19_⟩, ⟨z13_⟩⟩
        ·replace c12 := Bool.eq_false_iff.mpr c12
         subst c12
         have H1 : (spec_l5Good.j1 k1 l0 x3_1 true ((rd_T41 l0 x3_1).f0) ((rd_T41 l0 x3_1).f1) ((rd_T41 l0 x3_1).f2) ((rd_T41 l0 x3_1).f3)) = some r := by rw [if_neg (show ¬ (false = true) by decide)] at H; exact H
         clear H; have H := H1; clear H1
         have H' := Aside0.mk H
         clear H
         try go_wp2
         have n0_ : Aside0 (((((w5.setCell ⟨gb250, 0, none⟩ (.int .i64 ((rd_T41 l0 x3_1).f0))).setCell ⟨gb250, 1, none⟩ (.string ((rd_T41 l0 x3_1).f1))).setCell ⟨gb250, 2, none⟩ (.int .i64 ((rd_T41 l0 x3_1).f2))).setCell ⟨gb250, 3, none⟩ (.int .i64 ((rd_T41 l0 x3_1).f3))).heap[gb250]? = some (.cells #[.int .i64 ((rd_T41 l0 x3_1).f0), .string ((rd_T41 l0 x3_1).f1), .int .i64 ((rd_T41 l0 x3_1).f2), .int .i64 ((rd_T41 l0 x3_1).f3)] 41 (0, 0))) := ⟨z25_⟩
         have n1_ : Aside0 (Below w.heap.size w ((((w5.setCell ⟨gb250, 0, none⟩ (.int .i64 ((rd_T41 l0 x3_1).f0))).setCell ⟨gb250, 1, none⟩ (.string ((rd_T41 l0 x3_1).f1))).setCell ⟨gb250, 2, none⟩ (.int .i64 ((rd_T41 l0 x3_1).f2))).setCell ⟨gb250, 3, none⟩ (.int .i64 ((rd_T41 l0 x3_1).f3)))) := ⟨z13_⟩
         (try clear BK250); (try clear HB)
         generalize ((((w5.setCell ⟨gb250, 0, none⟩ (.int .i64 ((rd_T41 l0 x3_1).f0))).setCell ⟨gb250, 1, none⟩ (.string ((rd_T41 l0 x3_1).f1))).setCell ⟨gb250, 2, none⟩ (.int .i64 ((rd_T41 l0 x3_1).f2))).setCell ⟨gb250, 3, none⟩ (.int .i64 ((rd_T41 l0 x3_1).f3))) = w25 at n0_ n1_ ⊢
         have BK250 := n0_; have HB := n1_; clear n0_ n1_
         have n0_ := Aside0.mk (blk_drew BK250.out)
         have n1_ := Aside0.mk (below_drew1 HB.out)
         clear BK250; clear HB; have BK250 := n0_; have HB := n1_; clear n0_ n1_
         refine start_ (n := 37) (S := fun w' => w'.cell? ⟨gb250, 0, none⟩ = some (.int .i64 ((rd_T41 l0 x3_1).f0)) ∧ w'.cell? ⟨gb250, 1, none⟩ = some (.string ((rd_T41 l0 x3_1).f1)) ∧ w'.cell? ⟨gb250, 2, none⟩ = some (.int .i64 ((rd_T41 l0 x3_1).f2)) ∧ w'.cell? ⟨gb250, 3, none⟩ = some (.int .i64 ((rd_T41 l0 x3_1).f3))) (ds := []) #[F,F,F,F,F,F,F,F,F,F,F,F,F,F,F,F,F,F,F,F,F,F,F,F,F,F,F,F,F,F,F,F,F,F,F,F,F] (by kernel_rfl) rfl rfl ⟨(blk_cell BK250.out 0).trans rfl, (blk_cell BK250.out 1).trans rfl, (blk_cell BK250.out 2).trans rfl, (blk_cell BK250.out 3).trans rfl⟩ (fun hHeld => ?_); refine with_tabW spec_l5Good.tab5 spec_l5Good.bits5 (fun HT_ HW_ => ?_)
         generalize w25.drew = w26 at BK250 HB hHeld ⊢
         refine pv_ 0 (some 16) #[T,F,F,F,F,F,F,F,F,F,F,F,F,F,F,F,F,F,F,F,F,F,F,F,F,F,F,F,F,F,F,F,F,F,F,F,F] HT_.out ?_
         refine tv4_ 1 (some 17) #[T,T,F,F,F,F,F,F,F,F,F,F,F,F,F,F,F,F,F,F,F,F,F,F,F,F,F,F,F,F,F,F,F,F,F,F,F] HT_.out HW_.out hHeld ?_
         refine one_ (i := 2) (N := some 18) #[T,T,T,F,F,F,F,F,F,F,F,F,F,F,F,F,F,F,F,F,F,F,F,F,F,F,F,F,F,F,F,F,F,F,F,F,F] rfl rfl (one_of HT_.out (by kernel_rfl)) (by decide) (fun K hK => ?_)
         refine goes_ Tryz.func65 (by kernel_rfl) rfl #[.int .i64 ((rd_T41 l0 x3_1).f0), .int .i64 1, .int .i64 99] (by rfl) rfl rfl gl_ ?_
         with_reducible refine (spec_l1In.calls ((rd_T41 l0 x3_1).f0) 1 99 true _ A7.out).mono ?_
         rintro e w' ⟨rfl, ⟨nd, rfl⟩⟩
         refine ⟨_, rfl, ?_⟩
         refine hK.out _ _ ⟨(blk_cell BK250.out 0).trans rfl, (blk_cell BK250.out 1).trans rfl, (blk_cell BK250.out 2).trans rfl, (blk_cell BK250.out 3).trans rfl⟩ (fun hHeld => ?_)
         clear hK K
         refine nm_ (some 18) ?_
         refine pv_ 3 (some 19) #[T,T,T,T,F,F,F,F,F,F,F,F,F,F,F,F,F,F,F,F,F,F,F,F,F,F,F,F,F,F,F,F,F,F,F,F,F] HT_.out ?_
         refine pv_ 4 (some 20) #[T,T,T,T,T,F,F,F,F,F,F,F,F,F,F,F,F,F,F,F,F,F,F,F,F,F,F,F,F,F,F,F,F,F,F,F,F] HT_.out ?_
         refine pv_ 5 (some 21) #[T,T,T,T,T,T,F,F,F,F,F,F,F,F,F,F,F,F,F,F,F,F,F,F,F,F,F,F,F,F,F,F,F,F,F,F,F] HT_.out ?_
         refine tv4_ 6 (some 22) #[T,T,T,T,T,T,T,F,F,F,F,F,F,F,F,F,F,F,F,F,F,F,F,F,F,F,F,F,F,F,F,F,F,F,F,F,F] HT_.out HW_.out hHeld ?_
         refine one_ (i := 7) (N := some 23) #[T,T,T,T,T,T,T,T,F,F,F,F,F,F,F,F,F,F,F,F,F,F,F,F,F,F,F,F,F,F,F,F,F,F,F,F,F] rfl rfl (one_of HT_.out (by kernel_rfl)) (by decide) (fun K hK => ?_)
         refine goes_ Tryz.func66 (by kernel_rfl) rfl #[.string ((rd_T41 l0 x3_1).f1)] (by rfl) rfl rfl gl_ ?_
         with_reducible refine (spec_l2Word.calls k1 ((rd_T41 l0 x3_1).f1) true _ A9.out).mono ?_
         rintro e w' ⟨rfl, ⟨nd, rfl⟩⟩
         refine ⟨_, rfl, ?_⟩
         refine hK.out _ _ ⟨(blk_cell BK250.out 0).trans rfl, (blk_cell BK250.out 1).trans rfl, (blk_cell BK250.out 2).trans rfl, (blk_cell BK250.out 3).trans rfl⟩ (fun hHeld => ?_)
         clear hK K
         refine nm_ (some 23) ?_
         refine pv_ 8 (some 24) #[T,T,T,T,T,T,T,T,T,F,F,F,F,F,F,F,F,F,F,F,F,F,F,F,F,F,F,F,F,F,F,F,F,F,F,F,F] HT_.out ?_
         refine pv_ 9 (some 25) #[T,T,T,T,T,T,T,T,T,T,F,F,F,F,F,F,F,F,F,F,F,F,F,F,F,F,F,F,F,F,F,F,F,F,F,F,F] HT_.out ?_
         refine pv_ 10 (some 26) #[T,T,T,T,T,T,T,T,T,T,T,F,F,F,F,F,F,F,F,F,F,F,F,F,F,F,F,F,F,F,F,F,F,F,F,F,F] HT_.out ?_
         refine pv_ 11 (some 27) #[T,T,T,T,T,T,T,T,T,T,T,T,F,F,F,F,F,F,F,F,F,F,F,F,F,F,F,F,F,F,F,F,F,F,F,F,F] HT_.out ?_
         refine tv4_ 12 (some 28) #[T,T,T,T,T,T,T,T,T,T,T,T,T,F,F,F,F,F,F,F,F,F,F,F,F,F,F,F,F,F,F,F,F,F,F,F,F] HT_.out HW_.out hHeld ?_
         refine one_ (i := 13) (N := some 29) #[T,T,T,T,T,T,T,T,T,T,T,T,T,T,F,F,F,F,F,F,F,F,F,F,F,F,F,F,F,F,F,F,F,F,F,F,F] rfl rfl (one_of HT_.out (by kernel_rfl)) (by decide) (fun K hK => ?_)
         refine goes_ Tryz.func39 (by kernel_rfl) rfl #[.int .i64 ((rd_T41 l0 x3_1).f2)] (by rfl) rfl rfl gl_ ?_
         with_reducible refine (spec_l5Skills.calls ((rd_T41 l0 x3_1).f2) false _ A11.out).mono ?_
         rintro e w' ⟨rfl, ⟨nd, rfl⟩⟩
         refine ⟨_, rfl, ?_⟩
         refine hK.out _ _ ⟨(blk_cell BK250.out 0).trans rfl, (blk_cell BK250.out 1).trans rfl, (blk_cell BK250.out 2).trans rfl, (blk_cell BK250.out 3).trans rfl⟩ (fun hHeld => ?_)
         clear hK K
         refine nm_ (some 29) ?_
         refine pv_ 14 (some 30) #[T,T,T,T,T,T,T,T,T,T,T,T,T,T,T,F,F,F,F,F,F,F,F,F,F,F,F,F,F,F,F,F,F,F,F,F,F] HT_.out ?_
         refine pv_ 15 (some 31) #[T,T,T,T,T,T,T,T,T,T,T,T,T,T,T,T,F,F,F,F,F,F,F,F,F,F,F,F,F,F,F,F,F,F,F,F,F] HT_.out ?_
         refine pv_ 16 (some 32) #[T,T,T,T,T,T,T,T,T,T,T,T,T,T,T,T,T,F,F,F,F,F,F,F,F,F,F,F,F,F,F,F,F,F,F,F,F] HT_.out ?_
         refine pu_ 17 (some 33) #[T,T,T,T,T,T,T,T,T,T,T,T,T,T,T,T,T,T,F,F,F,F,F,F,F,F,F,F,F,F,F,F,F,F,F,F,F] HT_.out ?_
         refine pu_ 18 (some 34) #[T,T,T,T,T,T,T,T,T,T,T,T,T,T,T,T,T,T,T,F,F,F,F,F,F,F,F,F,F,F,F,F,F,F,F,F,F] HT_.out ?_
         refine pu_ 19 (some 35) #[T,T,T,T,T,T,T,T,T,T,T,T,T,T,T,T,T,T,T,T,F,F,F,F,F,F,F,F,F,F,F,F,F,F,F,F,F] HT_.out ?_
         refine pu_ 20 (some 36) #[T,T,T,T,T,T,T,T,T,T,T,T,T,T,T,T,T,T,T,T,T,F,F,F,F,F,F,F,F,F,F,F,F,F,F,F,F] HT_.out ?_
         refine pv_ 21 (some 37) #[T,T,T,T,T,T,T,T,T,T,T,T,T,T,T,T,T,T,T,T,T,T,F,F,F,F,F,F,F,F,F,F,F,F,F,F,F] HT_.out ?_
         refine pv_ 22 (some 38) #[T,T,T,T,T,T,T,T,T,T,T,T,T,T,T,T,T,T,T,T,T,T,T,F,F,F,F,F,F,F,F,F,F,F,F,F,F] HT_.out ?_
         refine pu_ 23 (some 39) #[T,T,T,T,T,T,T,T,T,T,T,T,T,T,T,T,T,T,T,T,T,T,T,T,F,F,F,F,F,F,F,F,F,F,F,F,F] HT_.out ?_
         refine pu_ 24 (some 40) #[T,T,T,T,T,T,T,T,T,T,T,T,T,T,T,T,T,T,T,T,T,T,T,T,T,F,F,F,F,F,F,F,F,F,F,F,F] HT_.out ?_
         refine pu_ 25 (some 41) #[T,T,T,T,T,T,T,T,T,T,T,T,T,T,T,T,T,T,T,T,T,T,T,T,T,T,F,F,F,F,F,F,F,F,F,F,F] HT_.out ?_
         refine pu_ 26 (some 42) #[T,T,T,T,T,T,T,T,T,T,T,T,T,T,T,T,T,T,T,T,T,T,T,T,T,T,T,F,F,F,F,F,F,F,F,F,F] HT_.out ?_
         refine pu_ 27 (some 43) #[T,T,T,T,T,T,T,T,T,T,T,T,T,T,T,T,T,T,T,T,T,T,T,T,T,T,T,T,F,F,F,F,F,F,F,F,F] HT_.out ?_
         refine pu_ 28 (some 44) #[T,T,T,T,T,T,T,T,T,T,T,T,T,T,T,T,T,T,T,T,T,T,T,T,T,T,T,T,T,F,F,F,F,F,F,F,F] HT_.out ?_
         refine pu_ 29 (some 45) #[T,T,T,T,T,T,T,T,T,T,T,T,T,T,T,T,T,T,T,T,T,T,T,T,T,T,T,T,T,T,F,F,F,F,F,F,F] HT_.out ?_
         refine pu_ 30 (some 46) #[T,T,T,T,T,T,T,T,T,T,T,T,T,T,T,T,T,T,T,T,T,T,T,T,T,T,T,T,T,T,T,F,F,F,F,F,F] HT_.out ?_
         refine pu_ 31 (some 47) #[T,T,T,T,T,T,T,T,T,T,T,T,T,T,T,T,T,T,T,T,T,T,T,T,T,T,T,T,T,T,T,T,F,F,F,F,F] HT_.out ?_
         refine pu_ 32 (some 48) #[T,T,T,T,T,T,T,T,T,T,T,T,T,T,T,T,T,T,T,T,T,T,T,T,T,T,T,T,T,T,T,T,T,F,F,F,F] HT_.out ?_
         refine pu_ 33 (some 49) #[T,T,T,T,T,T,T,T,T,T,T,T,T,T,T,T,T,T,T,T,T,T,T,T,T,T,T,T,T,T,T,T,T,T,F,F,F] HT_.out ?_
         refine pu_ 34 (some 50) #[T,T,T,T,T,T,T,T,T,T,T,T,T,T,T,T,T,T,T,T,T,T,T,T,T,T,T,T,T,T,T,T,T,T,T,F,F] HT_.out ?_
         refine pu_ 35 (some 51) #[T,T,T,T,T,T,T,T,T,T,T,T,T,T,T,T,T,T,T,T,T,T,T,T,T,T,T,T,T,T,T,T,T,T,T,T,F] HT_.out ?_
         refine pv_ 36 (some 52) #[T,T,T,T,T,T,T,T,T,T,T,T,T,T,T,T,T,T,T,T,T,T,T,T,T,T,T,T,T,T,T,T,T,T,T,T,T] HT_.out ?_
         refine done_ (done_of HT_.out (by kernel_rfl)) ?_
         try go_wp2
         go_meet
         case rel => exact ⟨_, (true), z2_, H', ⟨by have := HK1.out; first | omega | exact Nat.le_refl _⟩, ⟨z19_⟩, ⟨z13_⟩⟩
       ·replace c10 := Bool.eq_false_iff.mpr c10
        subst c10
        have H1 : (spec_l5Good.j1 k1 l0 x3_1 true ((rd_T41 l0 x3_1).f0) ((rd_T41 l0 x3_1).f1) ((rd_T41 l0 x3_1).f2) ((rd_T41 l0 x3_1).f3)) = some r := by rw [if_neg (show ¬ (false = true) by decide)] at H; exact H
        clear H; have H := H1; clear H1
        have H' := Aside0.mk H
        clear H
        try go_wp2
        have n0_ : Aside0 (((((w5.setCell ⟨gb250, 0, none⟩ (.int .i64 ((rd_T41 l0 x3_1).f0))).setCell ⟨gb250, 1, none⟩ (.string ((rd_T41 l0 x3_1).f1))).setCell ⟨gb250, 2, none⟩ (.int .i64 ((rd_T41 l0 x3_1).f2))).setCell ⟨gb250, 3, none⟩ (.int .i64 ((rd_T41 l0 x3_1).f3))).heap[gb250]? = some (.cells #[.int .i64 ((rd_T41 l0 x3_1).f0), .string ((rd_T41 l0 x3_1).f1), .int .i64 ((rd_T41 l0 x3_1).f2), .int .i64 ((rd_T41 l0 x3_1).f3)] 41 (0, 0))) := ⟨z25_⟩
        have n1_ : Aside0 (Below w.heap.size w ((((w5.setCell ⟨gb250, 0, none⟩ (.int .i64 ((rd_T41 l0 x3_1).f0))).setCell ⟨gb250, 1, none⟩ (.string ((rd_T41 l0 x3_1).f1))).setCell ⟨gb250, 2, none⟩ (.int .i64 ((rd_T41 l0 x3_1).f2))).setCell ⟨gb250, 3, none⟩ (.int .i64 ((rd_T41 l0 x3_1).f3)))) := ⟨z13_⟩
        (try clear BK250); (try clear HB)
        generalize ((((w5.setCell ⟨gb250, 0, none⟩ (.int .i64 ((rd_T41 l0 x3_1).f0))).setCell ⟨gb250, 1, none⟩ (.string ((rd_T41 l0 x3_1).f1))).setCell ⟨gb250, 2, none⟩ (.int .i64 ((rd_T41 l0 x3_1).f2))).setCell ⟨gb250, 3, none⟩ (.int .i64 ((rd_T41 l0 x3_1).f3))) = w27 at n0_ n1_ ⊢
        have BK250 := n0_; have HB := n1_; clear n0_ n1_
        have n0_ := Aside0.mk (blk_drew BK250.out)
        have n1_ := Aside0.mk (below_drew1 HB.out)
        clear BK250; clear HB; have BK250 := n0_; have HB := n1_; clear n0_ n1_
        refine start_ (n := 37) (S := fun w' => w'.cell? ⟨gb250, 0, none⟩ = some (.int .i64 ((rd_T41 l0 x3_1).f0)) ∧ w'.cell? ⟨gb250, 1, none⟩ = some (.string ((rd_T41 l0 x3_1).f1)) ∧ w'.cell? ⟨gb250, 2, none⟩ = some (.int .i64 ((rd_T41 l0 x3_1).f2)) ∧ w'.cell? ⟨gb250, 3, none⟩ = some (.int .i64 ((rd_T41 l0 x3_1).f3))) (ds := []) #[F,F,F,F,F,F,F,F,F,F,F,F,F,F,F,F,F,F,F,F,F,F,F,F,F,F,F,F,F,F,F,F,F,F,F,F,F] (by kernel_rfl) rfl rfl ⟨(blk_cell BK250.out 0).trans rfl, (blk_cell BK250.out 1).trans rfl, (blk_cell BK250.out 2).trans rfl, (blk_cell BK250.out 3).trans rfl⟩ (fun hHeld => ?_); refine with_tabW spec_l5Good.tab5 spec_l5Good.bits5 (fun HT_ HW_ => ?_)
        generalize w27.drew = w28 at BK250 HB hHeld ⊢
        refine pv_ 0 (some 16) #[T,F,F,F,F,F,F,F,F,F,F,F,F,F,F,F,F,F,F,F,F,F,F,F,F,F,F,F,F,F,F,F,F,F,F,F,F] HT_.out ?_
        refine tv4_ 1 (some 17) #[T,T,F,F,F,F,F,F,F,F,F,F,F,F,F,F,F,F,F,F,F,F,F,F,F,F,F,F,F,F,F,F,F,F,F,F,F] HT_.out HW_.out hHeld ?_
        refine one_ (i := 2) (N := some 18) #[T,T,T,F,F,F,F,F,F,F,F,F,F,F,F,F,F,F,F,F,F,F,F,F,F,F,F,F,F,F,F,F,F,F,F,F,F] rfl rfl (one_of HT_.out (by kernel_rfl)) (by decide) (fun K hK => ?_)
        refine goes_ Tryz.func65 (by kernel_rfl) rfl #[.int .i64 ((rd_T41 l0 x3_1).f0), .int .i64 1, .int .i64 99] (by rfl) rfl rfl gl_ ?_
        with_reducible refine (spec_l1In.calls ((rd_T41 l0 x3_1).f0) 1 99 true _ A7.out).mono ?_
        rintro e w' ⟨rfl, ⟨nd, rfl⟩⟩
        refine ⟨_, rfl, ?_⟩
        refine hK.out _ _ ⟨(blk_cell BK250.out 0).trans rfl, (blk_cell BK250.out 1).trans rfl, (blk_cell BK250.out 2).trans rfl, (blk_cell BK250.out 3).trans rfl⟩ (fun hHeld => ?_)
        clear hK K
        refine nm_ (some 18) ?_
        refine pv_ 3 (some 19) #[T,T,T,T,F,F,F,F,F,F,F,F,F,F,F,F,F,F,F,F,F,F,F,F,F,F,F,F,F,F,F,F,F,F,F,F,F] HT_.out ?_
        refine pv_ 4 (some 20) #[T,T,T,T,T,F,F,F,F,F,F,F,F,F,F,F,F,F,F,F,F,F,F,F,F,F,F,F,F,F,F,F,F,F,F,F,F] HT_.out ?_
        refine pv_ 5 (some 21) #[T,T,T,T,T,T,F,F,F,F,F,F,F,F,F,F,F,F,F,F,F,F,F,F,F,F,F,F,F,F,F,F,F,F,F,F,F] HT_.out ?_
        refine tv4_ 6 (some 22) #[T,T,T,T,T,T,T,F,F,F,F,F,F,F,F,F,F,F,F,F,F,F,F,F,F,F,F,F,F,F,F,F,F,F,F,F,F] HT_.out HW_.out hHeld ?_
        refine one_ (i := 7) (N := some 23) #[T,T,T,T,T,T,T,T,F,F,F,F,F,F,F,F,F,F,F,F,F,F,F,F,F,F,F,F,F,F,F,F,F,F,F,F,F] rfl rfl (one_of HT_.out (by kernel_rfl)) (by decide) (fun K hK => ?_)
        refine goes_ Tryz.func66 (by kernel_rfl) rfl #[.string ((rd_T41 l0 x3_1).f1)] (by rfl) rfl rfl gl_ ?_
        with_reducible refine (spec_l2Word.calls k1 ((rd_T41 l0 x3_1).f1) false _ A9.out).mono ?_
        rintro e w' ⟨rfl, ⟨nd, rfl⟩⟩
        refine ⟨_, rfl, ?_⟩
        refine hK.out _ _ ⟨(blk_cell BK250.out 0).trans rfl, (blk_cell BK250.out 1).trans rfl, (blk_cell BK250.out 2).trans rfl, (blk_cell BK250.out 3).trans rfl⟩ (fun hHeld => ?_)
        clear hK K
        refine nm_ (some 23) ?_
        refine pv_ 8 (some 24) #[T,T,T,T,T,T,T,T,T,F,F,F,F,F,F,F,F,F,F,F,F,F,F,F,F,F,F,F,F,F,F,F,F,F,F,F,F] HT_.out ?_
        refine pv_ 9 (some 25) #[T,T,T,T,T,T,T,T,T,T,F,F,F,F,F,F,F,F,F,F,F,F,F,F,F,F,F,F,F,F,F,F,F,F,F,F,F] HT_.out ?_
        refine pv_ 10 (some 26) #[T,T,T,T,T,T,T,T,T,T,T,F,F,F,F,F,F,F,F,F,F,F,F,F,F,F,F,F,F,F,F,F,F,F,F,F,F] HT_.out ?_
        refine pu_ 11 (some 27) #[T,T,T,T,T,T,T,T,T,T,T,T,F,F,F,F,F,F,F,F,F,F,F,F,F,F,F,F,F,F,F,F,F,F,F,F,F] HT_.out ?_
        refine pu_ 12 (some 28) #[T,T,T,T,T,T,T,T,T,T,T,T,T,F,F,F,F,F,F,F,F,F,F,F,F,F,F,F,F,F,F,F,F,F,F,F,F] HT_.out ?_
        refine pu_ 13 (some 29) #[T,T,T,T,T,T,T,T,T,T,T,T,T,T,F,F,F,F,F,F,F,F,F,F,F,F,F,F,F,F,F,F,F,F,F,F,F] HT_.out ?_
        refine pu_ 14 (some 30) #[T,T,T,T,T,T,T,T,T,T,T,T,T,T,T,F,F,F,F,F,F,F,F,F,F,F,F,F,F,F,F,F,F,F,F,F,F] HT_.out ?_
        refine pv_ 15 (some 31) #[T,T,T,T,T,T,T,T,T,T,T,T,T,T,T,T,F,F,F,F,F,F,F,F,F,F,F,F,F,F,F,F,F,F,F,F,F] HT_.out ?_
        refine pv_ 16 (some 32) #[T,T,T,T,T,T,T,T,T,T,T,T,T,T,T,T,T,F,F,F,F,F,F,F,F,F,F,F,F,F,F,F,F,F,F,F,F] HT_.out ?_
        refine pu_ 17 (some 33) #[T,T,T,T,T,T,T,T,T,T,T,T,T,T,T,T,T,T,F,F,F,F,F,F,F,F,F,F,F,F,F,F,F,F,F,F,F] HT_.out ?_
        refine pu_ 18 (some 34) #[T,T,T,T,T,T,T,T,T,T,T,T,T,T,T,T,T,T,T,F,F,F,F,F,F,F,F,F,F,F,F,F,F,F,F,F,F] HT_.out ?_
        refine pu_ 19 (some 35) #[T,T,T,T,T,T,T,T,T,T,T,T,T,T,T,T,T,T,T,T,F,F,F,F,F,F,F,F,F,F,F,F,F,F,F,F,F] HT_.out ?_
        refine pu_ 20 (some 36) #[T,T,T,T,T,T,T,T,T,T,T,T,T,T,T,T,T,T,T,T,T,F,F,F,F,F,F,F,F,F,F,F,F,F,F,F,F] HT_.out ?_
        refine pv_ 21 (some 37) #[T,T,T,T,T,T,T,T,T,T,T,T,T,T,T,T,T,T,T,T,T,T,F,F,F,F,F,F,F,F,F,F,F,F,F,F,F] HT_.out ?_
        refine pv_ 22 (some 38) #[T,T,T,T,T,T,T,T,T,T,T,T,T,T,T,T,T,T,T,T,T,T,T,F,F,F,F,F,F,F,F,F,F,F,F,F,F] HT_.out ?_
        refine pu_ 23 (some 39) #[T,T,T,T,T,T,T,T,T,T,T,T,T,T,T,T,T,T,T,T,T,T,T,T,F,F,F,F,F,F,F,F,F,F,F,F,F] HT_.out ?_
        refine pu_ 24 (some 40) #[T,T,T,T,T,T,T,T,T,T,T,T,T,T,T,T,T,T,T,T,T,T,T,T,T,F,F,F,F,F,F,F,F,F,F,F,F] HT_.out ?_
        refine pu_ 25 (some 41) #[T,T,T,T,T,T,T,T,T,T,T,T,T,T,T,T,T,T,T,T,T,T,T,T,T,T,F,F,F,F,F,F,F,F,F,F,F] HT_.out ?_
        refine pu_ 26 (some 42) #[T,T,T,T,T,T,T,T,T,T,T,T,T,T,T,T,T,T,T,T,T,T,T,T,T,T,T,F,F,F,F,F,F,F,F,F,F] HT_.out ?_
        refine pu_ 27 (some 43) #[T,T,T,T,T,T,T,T,T,T,T,T,T,T,T,T,T,T,T,T,T,T,T,T,T,T,T,T,F,F,F,F,F,F,F,F,F] HT_.out ?_
        refine pu_ 28 (some 44) #[T,T,T,T,T,T,T,T,T,T,T,T,T,T,T,T,T,T,T,T,T,T,T,T,T,T,T,T,T,F,F,F,F,F,F,F,F] HT_.out ?_
        refine pu_ 29 (some 45) #[T,T,T,T,T,T,T,T,T,T,T,T,T,T,T,T,T,T,T,T,T,T,T,T,T,T,T,T,T,T,F,F,F,F,F,F,F] HT_.out ?_
        refine pu_ 30 (some 46) #[T,T,T,T,T,T,T,T,T,T,T,T,T,T,T,T,T,T,T,T,T,T,T,T,T,T,T,T,T,T,T,F,F,F,F,F,F] HT_.out ?_
        refine pu_ 31 (some 47) #[T,T,T,T,T,T,T,T,T,T,T,T,T,T,T,T,T,T,T,T,T,T,T,T,T,T,T,T,T,T,T,T,F,F,F,F,F] HT_.out ?_
        refine pu_ 32 (some 48) #[T,T,T,T,T,T,T,T,T,T,T,T,T,T,T,T,T,T,T,T,T,T,T,T,T,T,T,T,T,T,T,T,T,F,F,F,F] HT_.out ?_
        refine pu_ 33 (some 49) #[T,T,T,T,T,T,T,T,T,T,T,T,T,T,T,T,T,T,T,T,T,T,T,T,T,T,T,T,T,T,T,T,T,T,F,F,F] HT_.out ?_
        refine pu_ 34 (some 50) #[T,T,T,T,T,T,T,T,T,T,T,T,T,T,T,T,T,T,T,T,T,T,T,T,T,T,T,T,T,T,T,T,T,T,T,F,F] HT_.out ?_
        refine pu_ 35 (some 51) #[T,T,T,T,T,T,T,T,T,T,T,T,T,T,T,T,T,T,T,T,T,T,T,T,T,T,T,T,T,T,T,T,T,T,T,T,F] HT_.out ?_
        refine pv_ 36 (some 52) #[T,T,T,T,T,T,T,T,T,T,T,T,T,T,T,T,T,T,T,T,T,T,T,T,T,T,T,T,T,T,T,T,T,T,T,T,T] HT_.out ?_
        refine done_ (done_of HT_.out (by kernel_rfl)) ?_
        try go_wp2
        go_meet
        case rel => exact ⟨_, (true), z2_, H', ⟨by have := HK1.out; first | omega | exact Nat.le_refl _⟩, ⟨z19_⟩, ⟨z13_⟩⟩
      ·replace c8 := Bool.eq_false_iff.mpr c8
       subst c8
       have H1 : (spec_l5Good.j1 k1 l0 x3_1 true ((rd_T41 l0 x3_1).f0) ((rd_T41 l0 x3_1).f1) ((rd_T41 l0 x3_1).f2) ((rd_T41 l0 x3_1).f3)) = some r := by rw [if_neg (show ¬ (false = true) by decide)] at H; exact H
       clear H; have H := H1; clear H1
       have H' := Aside0.mk H
       clear H
       try go_wp2
       have n0_ : Aside0 (((((w5.setCell ⟨gb250, 0, none⟩ (.int .i64 ((rd_T41 l0 x3_1).f0))).setCell ⟨gb250, 1, none⟩ (.string ((rd_T41 l0 x3_1).f1))).setCell ⟨gb250, 2, none⟩ (.int .i64 ((rd_T41 l0 x3_1).f2))).setCell ⟨gb250, 3, none⟩ (.int .i64 ((rd_T41 l0 x3_1).f3))).heap[gb250]? = some (.cells #[.int .i64 ((rd_T41 l0 x3_1).f0), .string ((rd_T41 l0 x3_1).f1), .int .i64 ((rd_T41 l0 x3_1).f2), .int .i64 ((rd_T41 l0 x3_1).f3)] 41 (0, 0))) := ⟨z25_⟩
       have n1_ : Aside0 (Below w.heap.size w ((((w5.setCell ⟨gb250, 0, none⟩ (.int .i64 ((rd_T41 l0 x3_1).f0))).setCell ⟨gb250, 1, none⟩ (.string ((rd_T41 l0 x3_1).f1))).setCell ⟨gb250, 2, none⟩ (.int .i64 ((rd_T41 l0 x3_1).f2))).setCell ⟨gb250, 3, none⟩ (.int .i64 ((rd_T41 l0 x3_1).f3)))) := ⟨z13_⟩
       (try clear BK250); (try clear HB)
       generalize ((((w5.setCell ⟨gb250, 0, none⟩ (.int .i64 ((rd_T41 l0 x3_1).f0))).setCell ⟨gb250, 1, none⟩ (.string ((rd_T41 l0 x3_1).f1))).setCell ⟨gb250, 2, none⟩ (.int .i64 ((rd_T41 l0 x3_1).f2))).setCell ⟨gb250, 3, none⟩ (.int .i64 ((rd_T41 l0 x3_1).f3))) = w29 at n0_ n1_ ⊢
       have BK250 := n0_; have HB := n1_; clear n0_ n1_
       have n0_ := Aside0.mk (blk_drew BK250.out)
       have n1_ := Aside0.mk (below_drew1 HB.out)
       clear BK250; clear HB; have BK250 := n0_; have HB := n1_; clear n0_ n1_
       refine start_ (n := 37) (S := fun w' => w'.cell? ⟨gb250, 0, none⟩ = some (.int .i64 ((rd_T41 l0 x3_1).f0)) ∧ w'.cell? ⟨gb250, 1, none⟩ = some (.string ((rd_T41 l0 x3_1).f1)) ∧ w'.cell? ⟨gb250, 2, none⟩ = some (.int .i64 ((rd_T41 l0 x3_1).f2)) ∧ w'.cell? ⟨gb250, 3, none⟩ = some (.int .i64 ((rd_T41 l0 x3_1).f3))) (ds := []) #[F,F,F,F,F,F,F,F,F,F,F,F,F,F,F,F,F,F,F,F,F,F,F,F,F,F,F,F,F,F,F,F,F,F,F,F,F] (by kernel_rfl) rfl rfl ⟨(blk_cell BK250.out 0).trans rfl, (blk_cell BK250.out 1).trans rfl, (blk_cell BK250.out 2).trans rfl, (blk_cell BK250.out 3).trans rfl⟩ (fun hHeld => ?_); refine with_tabW spec_l5Good.tab5 spec_l5Good.bits5 (fun HT_ HW_ => ?_)
       generalize w29.drew = w30 at BK250 HB hHeld ⊢
       refine pv_ 0 (some 16) #[T,F,F,F,F,F,F,F,F,F,F,F,F,F,F,F,F,F,F,F,F,F,F,F,F,F,F,F,F,F,F,F,F,F,F,F,F] HT_.out ?_
       refine tv4_ 1 (some 17) #[T,T,F,F,F,F,F,F,F,F,F,F,F,F,F,F,F,F,F,F,F,F,F,F,F,F,F,F,F,F,F,F,F,F,F,F,F] HT_.out HW_.out hHeld ?_
       refine one_ (i := 2) (N := some 18) #[T,T,T,F,F,F,F,F,F,F,F,F,F,F,F,F,F,F,F,F,F,F,F,F,F,F,F,F,F,F,F,F,F,F,F,F,F] rfl rfl (one_of HT_.out (by kernel_rfl)) (by decide) (fun K hK => ?_)
       refine goes_ Tryz.func65 (by kernel_rfl) rfl #[.int .i64 ((rd_T41 l0 x3_1).f0), .int .i64 1, .int .i64 99] (by rfl) rfl rfl gl_ ?_
       with_reducible refine (spec_l1In.calls ((rd_T41 l0 x3_1).f0) 1 99 false _ A7.out).mono ?_
       rintro e w' ⟨rfl, ⟨nd, rfl⟩⟩
       refine ⟨_, rfl, ?_⟩
       refine hK.out _ _ ⟨(blk_cell BK250.out 0).trans rfl, (blk_cell BK250.out 1).trans rfl, (blk_cell BK250.out 2).trans rfl, (blk_cell BK250.out 3).trans rfl⟩ (fun hHeld => ?_)
       clear hK K
       refine nm_ (some 18) ?_
       refine pv_ 3 (some 19) #[T,T,T,T,F,F,F,F,F,F,F,F,F,F,F,F,F,F,F,F,F,F,F,F,F,F,F,F,F,F,F,F,F,F,F,F,F] HT_.out ?_
       refine pv_ 4 (some 20) #[T,T,T,T,T,F,F,F,F,F,F,F,F,F,F,F,F,F,F,F,F,F,F,F,F,F,F,F,F,F,F,F,F,F,F,F,F] HT_.out ?_
       refine pu_ 5 (some 21) #[T,T,T,T,T,T,F,F,F,F,F,F,F,F,F,F,F,F,F,F,F,F,F,F,F,F,F,F,F,F,F,F,F,F,F,F,F] HT_.out ?_
       refine pu_ 6 (some 22) #[T,T,T,T,T,T,T,F,F,F,F,F,F,F,F,F,F,F,F,F,F,F,F,F,F,F,F,F,F,F,F,F,F,F,F,F,F] HT_.out ?_
       refine pu_ 7 (some 23) #[T,T,T,T,T,T,T,T,F,F,F,F,F,F,F,F,F,F,F,F,F,F,F,F,F,F,F,F,F,F,F,F,F,F,F,F,F] HT_.out ?_
       refine pu_ 8 (some 24) #[T,T,T,T,T,T,T,T,T,F,F,F,F,F,F,F,F,F,F,F,F,F,F,F,F,F,F,F,F,F,F,F,F,F,F,F,F] HT_.out ?_
       refine pv_ 9 (some 25) #[T,T,T,T,T,T,T,T,T,T,F,F,F,F,F,F,F,F,F,F,F,F,F,F,F,F,F,F,F,F,F,F,F,F,F,F,F] HT_.out ?_
       refine pv_ 10 (some 26) #[T,T,T,T,T,T,T,T,T,T,T,F,F,F,F,F,F,F,F,F,F,F,F,F,F,F,F,F,F,F,F,F,F,F,F,F,F] HT_.out ?_
       refine pu_ 11 (some 27) #[T,T,T,T,T,T,T,T,T,T,T,T,F,F,F,F,F,F,F,F,F,F,F,F,F,F,F,F,F,F,F,F,F,F,F,F,F] HT_.out ?_
       refine pu_ 12 (some 28) #[T,T,T,T,T,T,T,T,T,T,T,T,T,F,F,F,F,F,F,F,F,F,F,F,F,F,F,F,F,F,F,F,F,F,F,F,F] HT_.out ?_
       refine pu_ 13 (some 29) #[T,T,T,T,T,T,T,T,T,T,T,T,T,T,F,F,F,F,F,F,F,F,F,F,F,F,F,F,F,F,F,F,F,F,F,F,F] HT_.out ?_
       refine pu_ 14 (some 30) #[T,T,T,T,T,T,T,T,T,T,T,T,T,T,T,F,F,F,F,F,F,F,F,F,F,F,F,F,F,F,F,F,F,F,F,F,F] HT_.out ?_
       refine pv_ 15 (some 31) #[T,T,T,T,T,T,T,T,T,T,T,T,T,T,T,T,F,F,F,F,F,F,F,F,F,F,F,F,F,F,F,F,F,F,F,F,F] HT_.out ?_
       refine pv_ 16 (some 32) #[T,T,T,T,T,T,T,T,T,T,T,T,T,T,T,T,T,F,F,F,F,F,F,F,F,F,F,F,F,F,F,F,F,F,F,F,F] HT_.out ?_
       refine pu_ 17 (some 33) #[T,T,T,T,T,T,T,T,T,T,T,T,T,T,T,T,T,T,F,F,F,F,F,F,F,F,F,F,F,F,F,F,F,F,F,F,F] HT_.out ?_
       refine pu_ 18 (some 34) #[T,T,T,T,T,T,T,T,T,T,T,T,T,T,T,T,T,T,T,F,F,F,F,F,F,F,F,F,F,F,F,F,F,F,F,F,F] HT_.out ?_
       refine pu_ 19 (some 35) #[T,T,T,T,T,T,T,T,T,T,T,T,T,T,T,T,T,T,T,T,F,F,F,F,F,F,F,F,F,F,F,F,F,F,F,F,F] HT_.out ?_
       refine pu_ 20 (some 36) #[T,T,T,T,T,T,T,T,T,T,T,T,T,T,T,T,T,T,T,T,T,F,F,F,F,F,F,F,F,F,F,F,F,F,F,F,F] HT_.out ?_
       refine pv_ 21 (some 37) #[T,T,T,T,T,T,T,T,T,T,T,T,T,T,T,T,T,T,T,T,T,T,F,F,F,F,F,F,F,F,F,F,F,F,F,F,F] HT_.out ?_
       refine pv_ 22 (some 38) #[T,T,T,T,T,T,T,T,T,T,T,T,T,T,T,T,T,T,T,T,T,T,T,F,F,F,F,F,F,F,F,F,F,F,F,F,F] HT_.out ?_
       refine pu_ 23 (some 39) #[T,T,T,T,T,T,T,T,T,T,T,T,T,T,T,T,T,T,T,T,T,T,T,T,F,F,F,F,F,F,F,F,F,F,F,F,F] HT_.out ?_
       refine pu_ 24 (some 40) #[T,T,T,T,T,T,T,T,T,T,T,T,T,T,T,T,T,T,T,T,T,T,T,T,T,F,F,F,F,F,F,F,F,F,F,F,F] HT_.out ?_
       refine pu_ 25 (some 41) #[T,T,T,T,T,T,T,T,T,T,T,T,T,T,T,T,T,T,T,T,T,T,T,T,T,T,F,F,F,F,F,F,F,F,F,F,F] HT_.out ?_
       refine pu_ 26 (some 42) #[T,T,T,T,T,T,T,T,T,T,T,T,T,T,T,T,T,T,T,T,T,T,T,T,T,T,T,F,F,F,F,F,F,F,F,F,F] HT_.out ?_
       refine pu_ 27 (some 43) #[T,T,T,T,T,T,T,T,T,T,T,T,T,T,T,T,T,T,T,T,T,T,T,T,T,T,T,T,F,F,F,F,F,F,F,F,F] HT_.out ?_
       refine pu_ 28 (some 44) #[T,T,T,T,T,T,T,T,T,T,T,T,T,T,T,T,T,T,T,T,T,T,T,T,T,T,T,T,T,F,F,F,F,F,F,F,F] HT_.out ?_
       refine pu_ 29 (some 45) #[T,T,T,T,T,T,T,T,T,T,T,T,T,T,T,T,T,T,T,T,T,T,T,T,T,T,T,T,T,T,F,F,F,F,F,F,F] HT_.out ?_
       refine pu_ 30 (some 46) #[T,T,T,T,T,T,T,T,T,T,T,T,T,T,T,T,T,T,T,T,T,T,T,T,T,T,T,T,T,T,T,F,F,F,F,F,F] HT_.out ?_
       refine pu_ 31 (some 47) #[T,T,T,T,T,T,T,T,T,T,T,T,T,T,T,T,T,T,T,T,T,T,T,T,T,T,T,T,T,T,T,T,F,F,F,F,F] HT_.out ?_
       refine pu_ 32 (some 48) #[T,T,T,T,T,T,T,T,T,T,T,T,T,T,T,T,T,T,T,T,T,T,T,T,T,T,T,T,T,T,T,T,T,F,F,F,F] HT_.out ?_
       refine pu_ 33 (some 49) #[T,T,T,T,T,T,T,T,T,T,T,T,T,T,T,T,T,T,T,T,T,T,T,T,T,T,T,T,T,T,T,T,T,T,F,F,F] HT_.out ?_
       refine pu_ 34 (some 50) #[T,T,T,T,T,T,T,T,T,T,T,T,T,T,T,T,T,T,T,T,T,T,T,T,T,T,T,T,T,T,T,T,T,T,T,F,F] HT_.out ?_
       refine pu_ 35 (some 51) #[T,T,T,T,T,T,T,T,T,T,T,T,T,T,T,T,T,T,T,T,T,T,T,T,T,T,T,T,T,T,T,T,T,T,T,T,F] HT_.out ?_
       refine pv_ 36 (some 52) #[T,T,T,T,T,T,T,T,T,T,T,T,T,T,T,T,T,T,T,T,T,T,T,T,T,T,T,T,T,T,T,T,T,T,T,T,T] HT_.out ?_
       refine done_ (done_of HT_.out (by kernel_rfl)) ?_
       try go_wp2
       go_meet
       case rel => exact ⟨_, (true), z2_, H', ⟨by have := HK1.out; first | omega | exact Nat.le_refl _⟩, ⟨z19_⟩, ⟨z13_⟩⟩
     case rest =>
      clear HC4; (try clear c8); (try clear c10); obtain ⟨kq, x52_3, rfl, HA, HJ3, BK250, HB⟩ := hcut
      cases kq with
      | zero => exact absurd HA.out (by simp [spec_l5Good.j1])
      | succ kj3 =>
       have H := HA.out; clear HA
       simp only [spec_l5Good.j1] at H
       by_cases c31 : x52_3 = true
       ·subst c31
        have H1 : (some false) = some r := by rw [if_pos rfl] at H; exact H
        clear H; have H := H1; clear H1
        obtain rfl := Option.some.inj H
        go_wp2
        go_ret
        exact ⟨z6_, z13_⟩
       ·replace c31 := Bool.eq_false_iff.mpr c31
        subst c31
        have H1 : (spec_l5Good.l1 kj3 l0 x3_1 0 ((rd_T41 l0 x3_1).f0) ((rd_T41 l0 x3_1).f1) ((rd_T41 l0 x3_1).f2) ((rd_T41 l0 x3_1).f3)) = some r := by rw [if_neg (show ¬ (false = true) by decide)] at H; exact H
        clear H; have H := H1; clear H1
        have H' := Aside0.mk H
        clear H
        go_wp2
        go_loopg [5] kj3 (fun kq v5 w' => ∃ (x5_3 : Int), v5 = .int .i64 x5_3 ∧ Aside0 (spec_l5Good.l1 kq l0 x3_1 x5_3 ((rd_T41 l0 x3_1).f0) ((rd_T41 l0 x3_1).f1) ((rd_T41 l0 x3_1).f2) ((rd_T41 l0 x3_1).f3) = some r) ∧ Aside0 (kq ≤ kj3) ∧ Aside0 (w'.heap[gb250]? = some (.cells #[.int .i64 ((rd_T41 l0 x3_1).f0), .string ((rd_T41 l0 x3_1).f1), .int .i64 ((rd_T41 l0 x3_1).f2), .int .i64 ((rd_T41 l0 x3_1).f3)] 41 (0, 0))) ∧ Aside0 (Below w.heap.size w w'))
        case atStart => exact ⟨(0), z2_, H', ⟨Nat.le_refl _⟩, ⟨z19_⟩, ⟨z13_⟩⟩
        case round =>
         clear H'
         (try clear c3); (try clear c8); (try clear c10); (try clear c31); obtain ⟨x5_3, rfl, HA, HK3, BK250, HB⟩ := hrel
         cases gk with
         | zero => exact absurd HA.out (by simp [spec_l5Good.l1])
         | succ k3 =>
          have H := HA.out; clear HA
          simp only [spec_l5Good.l1] at H
          by_cases c32 : x5_3 < x3_1
          ·rw [if_pos c32] at H
           have c32b0 : decide (x5_3 < x3_1) = true := decide_eq_true c32
           clear c32
           by_cases c33 : 0 ≤ x5_3
           ·rw [if_pos c33] at H
            have c33b0 : decide (0 ≤ x5_3) = true := decide_eq_true c33
            clear c33
            by_cases c34 : x5_3 < (l0.length : Int)
            ·rw [if_pos c34] at H
             have c34b0 : decide (x5_3 < (l0.length : Int)) = true := decide_eq_true c34
             clear c34
             by_cases c35 : ((rd_T41 l0 x5_3).f1).toList = ((rd_T41 l0 x3_1).f1).toList
             ·rw [if_pos c35] at H
              have c35b0 : (((rd_T41 l0 x5_3).f1).toList == ((rd_T41 l0 x3_1).f1).toList) = true := beq_iff_eq.mpr c35
              have c35b1 : (((rd_T41 l0 x5_3).f1).toList != ((rd_T41 l0 x3_1).f1).toList) = false := bne_eq_false_iff_eq.mpr c35
              clear c35
              obtain rfl := Option.some.inj H
              try go_wp2
              have n0_ := Aside0.mk (blk_drew BK250.out)
              have n1_ := Aside0.mk (below_drew1 HB.out)
              clear BK250; clear HB; have BK250 := n0_; have HB := n1_; clear n0_ n1_
              have p256 : 0 ≤ (x5_3 : Int) := od_
              have q256 : x5_3 < (l0.length : Int) := od_
              obtain ⟨ad256, e256, hx256_0, hx256_1, hx256_2, hx256_3⟩ := at_T41 HR0.out x5_3 p256 q256
              have hw256_3 := hx256_3; have hw256_2 := hx256_2; have hw256_1 := hx256_1; have hw256_0 := hx256_0
              obtain rfl : ad249 = ad256 := (by injection e256)
              replace hx256_0 := (HB.out.cell (World.block_lt_of_cell? w _ hx256_0)).trans hx256_0
              replace hx256_1 := (HB.out.cell (World.block_lt_of_cell? w _ hx256_1)).trans hx256_1
              replace hx256_2 := (HB.out.cell (World.block_lt_of_cell? w _ hx256_2)).trans hx256_2
              replace hx256_3 := (HB.out.cell (World.block_lt_of_cell? w _ hx256_3)).trans hx256_3
              replace p256 := eq_true p256
              replace q256 := eq_true q256
              refine start_ (n := 8) (S := fun w' => w'.cell? ⟨gb250, 0, none⟩ = some (.int .i64 ((rd_T41 l0 x3_1).f0)) ∧ w'.cell? ⟨gb250, 1, none⟩ = some (.string ((rd_T41 l0 x3_1).f1)) ∧ w'.cell? ⟨gb250, 2, none⟩ = some (.int .i64 ((rd_T41 l0 x3_1).f2)) ∧ w'.cell? ⟨gb250, 3, none⟩ = some (.int .i64 ((rd_T41 l0 x3_1).f3)) ∧ w'.cell? (ad249.add ((x5_3).toNat * 4)) = some (.int .i64 ((rd_T41 l0 x5_3).f0)) ∧ w'.cell? ⟨(ad249.add ((x5_3).toNat * 4)).block, (ad249.add ((x5_3).toNat * 4)).off + 1, none⟩ = some (.string ((rd_T41 l0 x5_3).f1)) ∧ w'.cell? ⟨(ad249.add ((x5_3).toNat * 4)).block, (ad249.add ((x5_3).toNat * 4)).off + 2, none⟩ = some (.int .i64 ((rd_T41 l0 x5_3).f2)) ∧ w'.cell? ⟨(ad249.add ((x5_3).toNat * 4)).block, (ad249.add ((x5_3).toNat * 4)).off + 3, none⟩ = some (.int .i64 ((rd_T41 l0 x5_3).f3))) (ds := []) #[F,F,F,F,F,F,F,F] (by kernel_rfl) rfl rfl ⟨(blk_cell BK250.out 0).trans rfl, (blk_cell BK250.out 1).trans rfl, (blk_cell BK250.out 2).trans rfl, (blk_cell BK250.out 3).trans rfl, ((HB.out.cell (World.block_lt_of_cell? w _ hw256_0)).trans hw256_0), ((HB.out.cell (World.block_lt_of_cell? w _ hw256_1)).trans hw256_1), ((HB.out.cell (World.block_lt_of_cell? w _ hw256_2)).trans hw256_2), ((HB.out.cell (World.block_lt_of_cell? w _ hw256_3)).trans hw256_3)⟩ (fun hHeld => ?_); refine with_tabW spec_l5Good.tab10 spec_l5Good.bits10 (fun HT_ HW_ => ?_)
              generalize wr.drew = w36 at BK250 HB hx256_0 hx256_1 hx256_2 hx256_3 hHeld ⊢
              refine pv_ 0 (some 58) #[T,F,F,F,F,F,F,F] HT_.out ?_
              refine pv_ 1 (some 59) #[T,T,F,F,F,F,F,F] HT_.out ?_
              refine pv_ 2 (some 60) #[T,T,T,F,F,F,F,F] HT_.out ?_
              refine pv_ 3 (some 61) #[T,T,T,T,F,F,F,F] HT_.out ?_
              refine pv_ 5 (some 63) #[T,T,T,T,F,T,F,F] HT_.out ?_
              refine tv8_ 4 (some 62) #[T,T,T,T,T,T,F,F] HT_.out HW_.out hHeld ?_
              refine tv8_ 6 (some 64) #[T,T,T,T,T,T,T,F] HT_.out HW_.out hHeld ?_
              refine pv_ 7 (some 65) #[T,T,T,T,T,T,T,T] HT_.out ?_
              refine done_ (done_of HT_.out (by kernel_rfl)) ?_
              try go_wp2
              go_ret
              exact ⟨z6_, z13_⟩
             ·rw [if_neg c35] at H
              have c35b0 : (((rd_T41 l0 x5_3).f1).toList == ((rd_T41 l0 x3_1).f1).toList) = false := beq_eq_false_iff_ne.mpr c35
              have c35b1 : (((rd_T41 l0 x5_3).f1).toList != ((rd_T41 l0 x3_1).f1).toList) = true := bne_iff_ne.mpr c35
              have H' := Aside0.mk H
              clear H
              try go_wp2
              have n0_ := Aside0.mk (blk_drew BK250.out)
              have n1_ := Aside0.mk (below_drew1 HB.out)
              clear BK250; clear HB; have BK250 := n0_; have HB := n1_; clear n0_ n1_
              have p256 : 0 ≤ (x5_3 : Int) := od_
              have q256 : x5_3 < (l0.length : Int) := od_
              obtain ⟨ad256, e256, hx256_0, hx256_1, hx256_2, hx256_3⟩ := at_T41 HR0.out x5_3 p256 q256
              have hw256_3 := hx256_3; have hw256_2 := hx256_2; have hw256_1 := hx256_1; have hw256_0 := hx256_0
              obtain rfl : ad249 = ad256 := (by injection e256)
              replace hx256_0 := (HB.out.cell (World.block_lt_of_cell? w _ hx256_0)).trans hx256_0
              replace hx256_1 := (HB.out.cell (World.block_lt_of_cell? w _ hx256_1)).trans hx256_1
              replace hx256_2 := (HB.out.cell (World.block_lt_of_cell? w _ hx256_2)).trans hx256_2
              replace hx256_3 := (HB.out.cell (World.block_lt_of_cell? w _ hx256_3)).trans hx256_3
              replace p256 := eq_true p256
              replace q256 := eq_true q256
              refine start_ (n := 8) (S := fun w' => w'.cell? ⟨gb250, 0, none⟩ = some (.int .i64 ((rd_T41 l0 x3_1).f0)) ∧ w'.cell? ⟨gb250, 1, none⟩ = some (.string ((rd_T41 l0 x3_1).f1)) ∧ w'.cell? ⟨gb250, 2, none⟩ = some (.int .i64 ((rd_T41 l0 x3_1).f2)) ∧ w'.cell? ⟨gb250, 3, none⟩ = some (.int .i64 ((rd_T41 l0 x3_1).f3)) ∧ w'.cell? (ad249.add ((x5_3).toNat * 4)) = some (.int .i64 ((rd_T41 l0 x5_3).f0)) ∧ w'.cell? ⟨(ad249.add ((x5_3).toNat * 4)).block, (ad249.add ((x5_3).toNat * 4)).off + 1, none⟩ = some (.string ((rd_T41 l0 x5_3).f1)) ∧ w'.cell? ⟨(ad249.add ((x5_3).toNat * 4)).block, (ad249.add ((x5_3).toNat * 4)).off + 2, none⟩ = some (.int .i64 ((rd_T41 l0 x5_3).f2)) ∧ w'.cell? ⟨(ad249.add ((x5_3).toNat * 4)).block, (ad249.add ((x5_3).toNat * 4)).off + 3, none⟩ = some (.int .i64 ((rd_T41 l0 x5_3).f3))) (ds := []) #[F,F,F,F,F,F,F,F] (by kernel_rfl) rfl rfl ⟨(blk_cell BK250.out 0).trans rfl, (blk_cell BK250.out 1).trans rfl, (blk_cell BK250.out 2).trans rfl, (blk_cell BK250.out 3).trans rfl, ((HB.out.cell (World.block_lt_of_cell? w _ hw256_0)).trans hw256_0), ((HB.out.cell (World.block_lt_of_cell? w _ hw256_1)).trans hw256_1), ((HB.out.cell (World.block_lt_of_cell? w _ hw256_2)).trans hw256_2), ((HB.out.cell (World.block_lt_of_cell? w _ hw256_3)).trans hw256_3)⟩ (fun hHeld => ?_); refine with_tabW spec_l5Good.tab10 spec_l5Good.bits10 (fun HT_ HW_ => ?_)
              generalize wr.drew = w37 at BK250 HB hx256_0 hx256_1 hx256_2 hx256_3 hHeld ⊢
              refine pv_ 0 (some 58) #[T,F,F,F,F,F,F,F] HT_.out ?_
              refine pv_ 1 (some 59) #[T,T,F,F,F,F,F,F] HT_.out ?_
              refine pv_ 2 (some 60) #[T,T,T,F,F,F,F,F] HT_.out ?_
              refine pv_ 3 (some 61) #[T,T,T,T,F,F,F,F] HT_.out ?_
              refine pv_ 5 (some 63) #[T,T,T,T,F,T,F,F] HT_.out ?_
              refine tv8_ 4 (some 62) #[T,T,T,T,T,T,F,F] HT_.out HW_.out hHeld ?_
              refine tv8_ 6 (some 64) #[T,T,T,T,T,T,T,F] HT_.out HW_.out hHeld ?_
              refine pv_ 7 (some 65) #[T,T,T,T,T,T,T,T] HT_.out ?_
              refine done_ (done_of HT_.out (by kernel_rfl)) ?_
              try go_wp2
              go_roundg k3
              case measure => have := HK1.out; have := HJ3.out; have := HK3.out; omega
              case rel => exact ⟨(wrap64 (x5_3 + 1)), z2_, H', ⟨by have := HK1.out; have := HJ3.out; have := HK3.out; omega⟩, ⟨z19_⟩, ⟨z13_⟩⟩
            ·rw [if_neg c34] at H
             exact absurd H (by simp)
           ·rw [if_neg c33] at H
            exact absurd H (by simp)
          ·rw [if_neg c32] at H
           have c32b0 : decide (x5_3 < x3_1) = false := decide_eq_false c32
           clear c32
           have H' := Aside0.mk H
           clear H
           go_wp2
           go_roundg k3
           case measure => have := HK1.out; have := HJ3.out; have := HK3.out; omega
           case rel => exact ⟨(wrap64 (x3_1 + 1)), z2_, H', ⟨by have := HK1.out; have := HJ3.out; have := HK3.out; omega⟩, ⟨z13_⟩⟩
    ·rw [if_neg c3] at H
     exact absurd H (by simp)
   ·rw [if_neg c2] at H
    have c2b0 : decide (x3_1 < (l0.length : Int)) = false := decide_eq_false c2
    clear c2
    obtain rfl := Option.some.inj H
    go_wp2
    go_ret
    exact ⟨z6_, z5_⟩

end Go.Proofs.YtafdklajmklmkaaGreatDoor.XFnTeams
