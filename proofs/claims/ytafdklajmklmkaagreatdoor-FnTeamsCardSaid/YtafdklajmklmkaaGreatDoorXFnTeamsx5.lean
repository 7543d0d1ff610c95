/- Contracts of the functions that the law FnTeams comes to: each is told as a plain function of its arguments, and the machine's call does what that function says; no condition. Written by programs (print.py, xprint.py); Lean checks it. -/
import Derived.Test.YtafdklajmklmkaaGreatDoorXFnTeamsx0
import Derived.Test.YtafdklajmklmkaaGreatDoorXFnTeamsx4
namespace Go.Proofs.YtafdklajmklmkaaGreatDoor.XFnTeams
open Go.RowKit Go.Proofs.YtafdklajmklmkaaGreatDoorW.PrintWords Go.Proofs.YtafdklajmklmkaaGreatDoorW.PrintLast Go.Proofs.YtafdklajmklmkaaGreatDoorW.PrintMore
open List renaming setIfInBounds_toArray → zA, set_cons_zero → zB, set_cons_succ → zC
attribute [local go_sem] max2_int min2_int max_two min_two max_three min_three max_four min_four   -- for this text's walks alone
open Bool renaming true → T, false → F
set_option linter.unusedVariables false
set_option linter.unusedSimpArgs false

/-! ### impl_ArePeople: function 21 -/
mutual
def impl_ArePeople.l0 : Nat → List (S41) → List (S41) → Int → Int → Option (Bool)
 | 0, _, _, _, _ => none
 | k + 1, x0, x7, x8, x9 => if x9 < x8 then (if 0 ≤ x9 then (if x9 < (x7.length : Int) then ((impl_isId.f ((rd_T41 x7 x9).f0)).bind fun t210 => (if t210 = true then ((impl_isWord.f ((rd_T41 x7 x9).f1)).bind fun t211 => (if t211 = true then ((impl_areSkills.f ((rd_T41 x7 x9).f2)).bind fun t212 => (if t212 = true then ((impl_within.f ((rd_T41 x7 x9).f3) 0 500).bind fun t213 => (if t213 = true then (if x9 > 0 then (if 0 ≤ (wrap64 (x9 - 1)) then (if (wrap64 (x9 - 1)) < (x0.length : Int) then (impl_ArePeople.j1 k x0 x9 x7 x8 x9 (decide (((rd_T41 x0 (wrap64 (x9 - 1))).f0) ≥ ((rd_T41 x7 x9).f0))) ((rd_T41 x7 x9).f0) ((rd_T41 x7 x9).f1) ((rd_T41 x7 x9).f2) ((rd_T41 x7 x9).f3)) else (none)) else (none)) else (impl_ArePeople.j1 k x0 x9 x7 x8 x9 false ((rd_T41 x7 x9).f0) ((rd_T41 x7 x9).f1) ((rd_T41 x7 x9).f2) ((rd_T41 x7 x9).f3))) else (impl_ArePeople.j1 k x0 x9 x7 x8 x9 true ((rd_T41 x7 x9).f0) ((rd_T41 x7 x9).f1) ((rd_T41 x7 x9).f2) ((rd_T41 x7 x9).f3)))) else (impl_ArePeople.j1 k x0 x9 x7 x8 x9 true ((rd_T41 x7 x9).f0) ((rd_T41 x7 x9).f1) ((rd_T41 x7 x9).f2) ((rd_T41 x7 x9).f3)))) else (impl_ArePeople.j1 k x0 x9 x7 x8 x9 true ((rd_T41 x7 x9).f0) ((rd_T41 x7 x9).f1) ((rd_T41 x7 x9).f2) ((rd_T41 x7 x9).f3)))) else (impl_ArePeople.j1 k x0 x9 x7 x8 x9 true ((rd_T41 x7 x9).f0) ((rd_T41 x7 x9).f1) ((rd_T41 x7 x9).f2) ((rd_T41 x7 x9).f3)))) else (none)) else (none)) else (some (decide ((x0.length : Int) ≤ 10)))
def impl_ArePeople.j1 : Nat → List (S41) → Int → List (S41) → Int → Int → Bool → Int → ByteArray → Int → Int → Option (Bool)
 | 0, _, _, _, _, _, _, _, _, _, _ => none
 | k + 1, x0, x3, x7, x8, x9, x50, x210000, x210001, x210002, x210003 => if x50 = true then (some false) else (if 0 ≤ x3 then (if x3 ≤ (x0.length : Int) then ((some (x0.take (x3 : Int).toNat : List (S41))).bind fun y215 => (impl_ArePeople.l1 k x0 x7 x8 x9 y215 (y215.length : Int) 0 x210000 x210001 x210002 x210003)) else (none)) else (none))
def impl_ArePeople.l1 : Nat → List (S41) → List (S41) → Int → Int → List (S41) → Int → Int → Int → ByteArray → Int → Int → Option (Bool)
 | 0, _, _, _, _, _, _, _, _, _, _, _ => none
 | k + 1, x0, x7, x8, x9, x53, x54, x55, x210000, x210001, x210002, x210003 => if x55 < x54 then (if 0 ≤ x55 then (if x55 < (x53.length : Int) then (if ((rd_T41 x53 x55).f1).toList = x210001.toList then (some false) else (impl_ArePeople.l1 k x0 x7 x8 x9 x53 x54 (wrap64 (x55 + 1)) x210000 x210001 x210002 x210003)) else (none)) else (none)) else (impl_ArePeople.l0 k x0 x7 x8 (wrap64 (x9 + 1)))
end
def impl_ArePeople.f (k : Nat) (l0 : List (S41)) : Option (Bool) := impl_ArePeople.l0 k l0 l0 (l0.length : Int) 0
def impl_ArePeople.T4 : Bool × List (List Nat × List Nat) := (true, [([], []), ([0], [0]), ([1], [1]), ([2], [2]), ([3, 2], [3]), ([4], [4]), ([5, 4], [4, 5]), ([6, 4, 4], [4, 6]), ([7, 4], [4, 7]), ([4, 8], [4, 8]), ([9, 7], [9]), ([10], [10]), ([11, 10], [10, 11]), ([12, 10, 10], [10, 12]), ([13, 10], [10, 13]), ([10, 14], [10, 14]), ([15, 13], [15]), ([16], [16]), ([17, 16], [16, 17]), ([18, 16, 16], [16, 18]), ([19, 16], [16, 19]), ([16, 20], [16, 20]), ([21, 19], [21]), ([22], [22]), ([23, 22], [22, 23]), ([24, 22, 22], [22, 24]), ([25], [25]), ([25], [25]), ([27, 25], [25, 27]), ([26, 28, 25], [25, 26, 28]), ([29, 25], [25, 29]), ([30, 25], [25, 30]), ([25], [25]), ([32, 25], [25, 32]), ([31, 33, 25], [25, 31, 33]), ([25, 34, 22], [22, 25, 34]), ([22, 35], [22, 35])])
def impl_ArePeople.B4 : List Nat := [0, 1, 3, 7, 15, 31, 63, 127, 255, 511, 1023, 2047, 4095, 8191, 16383, 32767, 65535, 131071, 262143, 524287, 1048575, 2097151, 4194303, 8388607, 16777215, 33554431, 67108863, 67108863, 201326591, 536870911, 1073741823, 2147483647, 67108863, 4362076159, 17179869183, 34359738367, 68719476735]
theorem impl_ArePeople.tab4 : rtab .any (opsOf Tryz.f21 4) = impl_ArePeople.T4 := by kernel_rfl
theorem impl_ArePeople.bits4 : waitsOk impl_ArePeople.T4.2 impl_ArePeople.B4 = true := by kernel_rfl
set_option maxHeartbeats 8000000 in
set_option maxRecDepth 100000 in
theorem impl_ArePeople.calls (k : Nat) (A0 : Option Addr) (c0 : Nat) (l0 : List (S41)) (r : Bool) (w : World) (hr0 : Kd.C k41 w A0 l0.length l0) (hc0 : l0.length ≤ c0) (h : impl_ArePeople.f k l0 = some r) :
  Calls Tryz.prog 21 #[.slice A0 l0.length c0] w fun e w' => e = .returned (.bool r) ∧ Below w.heap.size w w' := by
 have hu41 := Tryz.underlying41; have HR0 := Aside0.mk hr0; have HC0 := Aside0.mk hc0; clear hr0 hc0
 have HB := Aside0.mk (Below.refl w.heap.size w)
 have H : (impl_ArePeople.l0 k l0 l0 (l0.length : Int) 0) = some r := h
 clear h
 have H' := Aside0.mk H
 clear H
 go_enter Tryz.func21, Tryz.ntmps21
 go_wp2
 go_loopg [9] k (fun kq v9 w' => ∃ (x9_1 : Int), v9 = .int .i64 x9_1 ∧ Aside0 (impl_ArePeople.l0 kq l0 l0 (l0.length : Int) x9_1 = some r) ∧ Aside0 (kq ≤ k) ∧ Aside0 (Below w.heap.size w w'))
 case atStart => exact ⟨(0), z2_, H', ⟨Nat.le_refl _⟩, ⟨z5_⟩⟩
 case round =>
  clear H'
  obtain ⟨x9_1, rfl, HA, HK1, HB⟩ := hrel
  cases gk with
  | zero => exact absurd HA.out (by simp [impl_ArePeople.l0])
  | succ k1 =>
   have H := HA.out; clear HA
   simp only [impl_ArePeople.l0] at H
   by_cases c2 : x9_1 < (l0.length : Int)
   ·rw [if_pos c2] at H
    have c2b0 : decide (x9_1 < (l0.length : Int)) = true := decide_eq_true c2
    clear c2
    by_cases c3 : 0 ≤ x9_1
    ·rw [if_pos c3] at H
     have c3b0 : decide (0 ≤ x9_1) = true := decide_eq_true c3
     clear c3
     by_cases c4 : x9_1 < (l0.length : Int)
     ·rw [if_pos c4] at H
      have c4b0 : decide (x9_1 < (l0.length : Int)) = true := decide_eq_true c4
      clear c4; have HC5 := Aside0.mk H; clear H
      have p208 : 0 ≤ (x9_1 : Int) := od_
      have q208 : x9_1 < (l0.length : Int) := od_
      obtain ⟨ad208, e208, hx208_0, hx208_1, hx208_2, hx208_3⟩ := at_T41 HR0.out x9_1 p208 q208
      cases e208
      replace hx208_0 := (HB.out.cell (World.block_lt_of_cell? w _ hx208_0)).trans hx208_0
      replace hx208_1 := (HB.out.cell (World.block_lt_of_cell? w _ hx208_1)).trans hx208_1
      replace hx208_2 := (HB.out.cell (World.block_lt_of_cell? w _ hx208_2)).trans hx208_2
      replace hx208_3 := (HB.out.cell (World.block_lt_of_cell? w _ hx208_3)).trans hx208_3
      replace p208 := eq_true p208
      replace q208 := eq_true q208
      go_upto_region 4 with (first | ((with_reducible refine gate_dst (N := 4) rfl ?_); refine box_event ?hg (N := 4) ?hd (cs := #[.int .i64 0, .string (⟨#[]⟩ : ByteArray), .int .i64 0, .int .i64 0]) (t := 41) ?hr ?_; (case hd => rfl); (case hg => rfl); (case hr => first | (go_simp; done) | (go_simp; rfl)); intro gb209 hg w6 hbox hb; have n0_ := Aside0.mk (below_step bx_ hb); have n1_ := Aside0.mk (hbox); have n2_ := Aside0.mk ((by rw [hg]; exact (below_size bx_) : w.heap.size ≤ gb209)); have n3_ := Aside0.mk ((by rw [hg]; exact (below_size bx_) : w.heap.size ≤ gb209)); clear HB; have HB := n0_; have BK209 := n1_; have GW209 := n2_; have GE209 := n3_; clear n0_ n1_ n2_ n3_; clear hb hbox hg; have z7_0 : w6.cell? ⟨gb209, 0, none⟩ = some (.int .i64 0) := (blk_cell BK209.out 0).trans rfl; have z7_1 : w6.cell? ⟨gb209, 1, none⟩ = some (.string (⟨#[]⟩ : ByteArray)) := (blk_cell BK209.out 1).trans rfl; have z7_2 : w6.cell? ⟨gb209, 2, none⟩ = some (.int .i64 0) := (blk_cell BK209.out 2).trans rfl; have z7_3 : w6.cell? ⟨gb209, 3, none⟩ = some (.int .i64 0) := (blk_cell BK209.out 3).trans rfl; have y7_0 := blk_frozen BK209.out 0; have y7_1 := blk_frozen BK209.out 1; have y7_2 := blk_frozen BK209.out 2; have y7_3 := blk_frozen BK209.out 3))
      (try simp only [Act.put, zA, zB, zC])
      go_cut [50] (fun v50 wc => ∃ (kq : Nat) (x50_4 : Bool), v50 = .bool x50_4 ∧ Aside0 (impl_ArePeople.j1 kq l0 x9_1 l0 (l0.length : Int) x9_1 x50_4 ((rd_T41 l0 x9_1).f0) ((rd_T41 l0 x9_1).f1) ((rd_T41 l0 x9_1).f2) ((rd_T41 l0 x9_1).f3) = some r) ∧ Aside0 (kq ≤ k1) ∧ Aside0 (wc.heap[gb209]? = some (.cells #[.int .i64 ((rd_T41 l0 x9_1).f0), .string ((rd_T41 l0 x9_1).f1), .int .i64 ((rd_T41 l0 x9_1).f2), .int .i64 ((rd_T41 l0 x9_1).f3)] 41 (0, 0))) ∧ Aside0 (Below w.heap.size w wc))
      case first =>
       have H := HC5.out; clear HC5; replace H := Option.bind_eq_some_iff.mp H; obtain ⟨t210, A80, H⟩ := H
       replace H : (if t210 = true then ((impl_isWord.f ((rd_T41 l0 x9_1).f1)).bind fun t211 => (if t211 = true then ((impl_areSkills.f ((rd_T41 l0 x9_1).f2)).bind fun t212 => (if t212 = true then ((impl_within.f ((rd_T41 l0 x9_1).f3) 0 500).bind fun t213 => (if t213 = true then (if x9_1 > 0 then (if 0 ≤ (wrap64 (x9_1 - 1)) then (if (wrap64 (x9_1 - 1)) < (l0.length : Int) then (impl_ArePeople.j1 k1 l0 x9_1 l0 (l0.length : Int) x9_1 (decide (((rd_T41 l0 (wrap64 (x9_1 - 1))).f0) ≥ ((rd_T41 l0 x9_1).f0))) ((rd_T41 l0 x9_1).f0) ((rd_T41 l0 x9_1).f1) ((rd_T41 l0 x9_1).f2) ((rd_T41 l0 x9_1).f3)) else (none)) else (none)) else (impl_ArePeople.j1 k1 l0 x9_1 l0 (l0.length : Int) x9_1 false ((rd_T41 l0 x9_1).f0) ((rd_T41 l0 x9_1).f1) ((rd_T41 l0 x9_1).f2) ((rd_T41 l0 x9_1).f3))) else (impl_ArePeople.j1 k1 l0 x9_1 l0 (l0.length : Int) x9_1 true ((rd_T41 l0 x9_1).f0) ((rd_T41 l0 x9_1).f1) ((rd_T41 l0 x9_1).f2) ((rd_T41 l0 x9_1).f3)))) else (impl_ArePeople.j1 k1 l0 x9_1 l0 (l0.length : Int) x9_1 true ((rd_T41 l0 x9_1).f0) ((rd_T41 l0 x9_1).f1) ((rd_T41 l0 x9_1).f2) ((rd_T41 l0 x9_1).f3)))) else (impl_ArePeople.j1 k1 l0 x9_1 l0 (l0.length : Int) x9_1 true ((rd_T41 l0 x9_1).f0) ((rd_T41 l0 x9_1).f1) ((rd_T41 l0 x9_1).f2) ((rd_T41 l0 x9_1).f3)))) else (impl_ArePeople.j1 k1 l0 x9_1 l0 (l0.length : Int) x9_1 true ((rd_T41 l0 x9_1).f0) ((rd_T41 l0 x9_1).f1) ((rd_T41 l0 x9_1).f2) ((rd_T41 l0 x9_1).f3))) = some r := H
       have A8 := Aside0.mk A80; clear A80
       by_cases c9 : t210 = true
       ·subst c9
        have H1 : ((impl_isWord.f ((rd_T41 l0 x9_1).f1)).bind fun t211 => (if t211 = true then ((impl_areSkills.f ((rd_T41 l0 x9_1).f2)).bind fun t212 => (if t212 = true then ((impl_within.f ((rd_T41 l0 x9_1).f3) 0 500).bind fun t213 => (if t213 = true then (if x9_1 > 0 then (if 0 ≤ (wrap64 (x9_1 - 1)) then (if (wrap64 (x9_1 - 1)) < (l0.length : Int) then (impl_ArePeople.j1 k1 l0 x9_1 l0 (l0.length : Int) x9_1 (decide (((rd_T41 l0 (wrap64 (x9_1 - 1))).f0) ≥ ((rd_T41 l0 x9_1).f0))) ((rd_T41 l0 x9_1).f0) ((rd_T41 l0 x9_1).f1) ((rd_T41 l0 x9_1).f2) ((rd_T41 l0 x9_1).f3)) else (none)) else (none)) else (impl_ArePeople.j1 k1 l0 x9_1 l0 (l0.length : Int) x9_1 false ((rd_T41 l0 x9_1).f0) ((rd_T41 l0 x9_1).f1) ((rd_T41 l0 x9_1).f2) ((rd_T41 l0 x9_1).f3))) else (impl_ArePeople.j1 k1 l0 x9_1 l0 (l0.length : Int) x9_1 true ((rd_T41 l0 x9_1).f0) ((rd_T41 l0 x9_1).f1) ((rd_T41 l0 x9_1).f2) ((rd_T41 l0 x9_1).f3)))) else (impl_ArePeople.j1 k1 l0 x9_1 l0 (l0.length : Int) x9_1 true ((rd_T41 l0 x9_1).f0) ((rd_T41 l0 x9_1).f1) ((rd_T41 l0 x9_1).f2) ((rd_T41 l0 x9_1).f3)))) else (impl_ArePeople.j1 k1 l0 x9_1 l0 (l0.length : Int) x9_1 true ((rd_T41 l0 x9_1).f0) ((rd_T41 l0 x9_1).f1) ((rd_T41 l0 x9_1).f2) ((rd_T41 l0 x9_1).f3)))) = some r := by rw [if_pos rfl] at H; exact H
        clear H; have H := H1; clear H1; replace H := Option.bind_eq_some_iff.mp H; obtain ⟨t211, A100, H⟩ := H
        replace H : (if t211 = true then ((impl_areSkills.f ((rd_T41 l0 x9_1).f2)).bind fun t212 => (if t212 = true then ((impl_within.f ((rd_T41 l0 x9_1).f3) 0 500).bind fun t213 => (if t213 = true then (if x9_1 > 0 then (if 0 ≤ (wrap64 (x9_1 - 1)) then (if (wrap64 (x9_1 - 1)) < (l0.length : Int) then (impl_ArePeople.j1 k1 l0 x9_1 l0 (l0.length : Int) x9_1 (decide (((rd_T41 l0 (wrap64 (x9_1 - 1))).f0) ≥ ((rd_T41 l0 x9_1).f0))) ((rd_T41 l0 x9_1).f0) ((rd_T41 l0 x9_1).f1) ((rd_T41 l0 x9_1).f2) ((rd_T41 l0 x9_1).f3)) else (none)) else (none)) else (impl_ArePeople.j1 k1 l0 x9_1 l0 (l0.length : Int) x9_1 false ((rd_T41 l0 x9_1).f0) ((rd_T41 l0 x9_1).f1) ((rd_T41 l0 x9_1).f2) ((rd_T41 l0 x9_1).f3))) else (impl_ArePeople.j1 k1 l0 x9_1 l0 (l0.length : Int) x9_1 true ((rd_T41 l0 x9_1).f0) ((rd_T41 l0 x9_1).f1) ((rd_T41 l0 x9_1).f2) ((rd_T41 l0 x9_1).f3)))) else (impl_ArePeople.j1 k1 l0 x9_1 l0 (l0.length : Int) x9_1 true ((rd_T41 l0 x9_1).f0) ((rd_T41 l0 x9_1).f1) ((rd_T41 l0 x9_1).f2) ((rd_T41 l0 x9_1).f3)))) else (impl_ArePeople.j1 k1 l0 x9_1 l0 (l0.length : Int) x9_1 true ((rd_T41 l0 x9_1).f0) ((rd_T41 l0 x9_1).f1) ((rd_T41 l0 x9_1).f2) ((rd_T41 l0 x9_1).f3))) = some r := H
        have A10 := Aside0.mk A100; clear A100
        by_cases c11 : t211 = true
        ·subst c11
         have H1 : ((impl_areSkills.f ((rd_T41 l0 x9_1).f2)).bind fun t212 => (if t212 = true then ((impl_within.f ((rd_T41 l0 x9_1).f3) 0 500).bind fun t213 => (if t213 = true then (if x9_1 > 0 then (if 0 ≤ (wrap64 (x9_1 - 1)) then (if (wrap64 (x9_1 - 1)) < (l0.length : Int) then (impl_ArePeople.j1 k1 l0 x9_1 l0 (l0.length : Int) x9_1 (decide (((rd_T41 l0 (wrap64 (x9_1 - 1))).f0) ≥ ((rd_T41 l0 x9_1).f0))) ((rd_T41 l0 x9_1).f0) ((rd_T41 l0 x9_1).f1) ((rd_T41 l0 x9_1).f2) ((rd_T41 l0 x9_1).f3)) else (none)) else (none)) else (impl_ArePeople.j1 k1 l0 x9_1 l0 (l0.length : Int) x9_1 false ((rd_T41 l0 x9_1).f0) ((rd_T41 l0 x9_1).f1) ((rd_T41 l0 x9_1).f2) ((rd_T41 l0 x9_1).f3))) else (impl_ArePeople.j1 k1 l0 x9_1 l0 (l0.length : Int) x9_1 true ((rd_T41 l0 x9_1).f0) ((rd_T41 l0 x9_1).f1) ((rd_T41 l0 x9_1).f2) ((rd_T41 l0 x9_1).f3)))) else (impl_ArePeople.j1 k1 l0 x9_1 l0 (l0.length : Int) x9_1 true ((rd_T41 l0 x9_1).f0) ((rd_T41 l0 x9_1).f1) ((rd_T41 l0 x9_1).f2) ((rd_T41 l0 x9_1).f3)))) = some r := by rw [if_pos rfl] at H; exact H
         clear H; have H := H1; clear H1; replace H := Option.bind_eq_some_iff.mp H; obtain ⟨t212, A120, H⟩ := H
         replace H : (if t212 = true then ((impl_within.f ((rd_T41 l0 x9_1).f3) 0 500).bind fun t213 => (if t213 = true then (if x9_1 > 0 then (if 0 ≤ (wrap64 (x9_1 - 1)) then (if (wrap64 (x9_1 - 1)) < (l0.length : Int) then (impl_ArePeople.j1 k1 l0 x9_1 l0 (l0.length : Int) x9_1 (decide (((rd_T41 l0 (wrap64 (x9_1 - 1))).f0) ≥ ((rd_T41 l0 x9_1).f0))) ((rd_T41 l0 x9_1).f0) ((rd_T41 l0 x9_1).f1) ((rd_T41 l0 x9_1).f2) ((rd_T41 l0 x9_1).f3)) else (none)) else (none)) else (impl_ArePeople.j1 k1 l0 x9_1 l0 (l0.length : Int) x9_1 false ((rd_T41 l0 x9_1).f0) ((rd_T41 l0 x9_1).f1) ((rd_T41 l0 x9_1).f2) ((rd_T41 l0 x9_1).f3))) else (impl_ArePeople.j1 k1 l0 x9_1 l0 (l0.length : Int) x9_1 true ((rd_T41 l0 x9_1).f0) ((rd_T41 l0 x9_1).f1) ((rd_T41 l0 x9_1).f2) ((rd_T41 l0 x9_1).f3)))) else (impl_ArePeople.j1 k1 l0 x9_1 l0 (l0.length : Int) x9_1 true ((rd_T41 l0 x9_1).f0) ((rd_T41 l0 x9_1).f1) ((rd_T41 l0 x9_1).f2) ((rd_T41 l0 x9_1).f3))) = some r := H
         have A12 := Aside0.mk A120; clear A120
         by_cases c13 : t212 = true
         ·subst c13
          have H1 : ((impl_within.f ((rd_T41 l0 x9_1).f3) 0 500).bind fun t213 => (if t213 = true then (if x9_1 > 0 then (if 0 ≤ (wrap64 (x9_1 - 1)) then (if (wrap64 (x9_1 - 1)) < (l0.length : Int) then (impl_ArePeople.j1 k1 l0 x9_1 l0 (l0.length : Int) x9_1 (decide (((rd_T41 l0 (wrap64 (x9_1 - 1))).f0) ≥ ((rd_T41 l0 x9_1).f0))) ((rd_T41 l0 x9_1).f0) ((rd_T41 l0 x9_1).f1) ((rd_T41 l0 x9_1).f2) ((rd_T41 l0 x9_1).f3)) else (none)) else (none)) else (impl_ArePeople.j1 k1 l0 x9_1 l0 (l0.length : Int) x9_1 false ((rd_T41 l0 x9_1).f0) ((rd_T41 l0 x9_1).f1) ((rd_T41 l0 x9_1).f2) ((rd_T41 l0 x9_1).f3))) else (impl_ArePeople.j1 k1 l0 x9_1 l0 (l0.length : Int) x9_1 true ((rd_T41 l0 x9_1).f0) ((rd_T41 l0 x9_1).f1) ((rd_T41 l0 x9_1).f2) ((rd_T41 l0 x9_1).f3)))) = some r := by rw [if_pos rfl] at H; exact H
          clear H; have H := H1; clear H1; replace H := Option.bind_eq_some_iff.mp H; obtain ⟨t213, A140, H⟩ := H
          replace H : (if t213 = true then (if x9_1 > 0 then (if 0 ≤ (wrap64 (x9_1 - 1)) then (if (wrap64 (x9_1 - 1)) < (l0.length : Int) then (impl_ArePeople.j1 k1 l0 x9_1 l0 (l0.length : Int) x9_1 (decide (((rd_T41 l0 (wrap64 (x9_1 - 1))).f0) ≥ ((rd_T41 l0 x9_1).f0))) ((rd_T41 l0 x9_1).f0) ((rd_T41 l0 x9_1).f1) ((rd_T41 l0 x9_1).f2) ((rd_T41 l0 x9_1).f3)) else (none)) else (none)) else (impl_ArePeople.j1 k1 l0 x9_1 l0 (l0.length : Int) x9_1 false ((rd_T41 l0 x9_1).f0) ((rd_T41 l0 x9_1).f1) ((rd_T41 l0 x9_1).f2) ((rd_T41 l0 x9_1).f3))) else (impl_ArePeople.j1 k1 l0 x9_1 l0 (l0.length : Int) x9_1 true ((rd_T41 l0 x9_1).f0) ((rd_T41 l0 x9_1).f1) ((rd_T41 l0 x9_1).f2) ((rd_T41 l0 x9_1).f3))) = some r := H
          have A14 := Aside0.mk A140; clear A140
          by_cases c15 : t213 = true
          ·subst c15
           have H1 : (if x9_1 > 0 then (if 0 ≤ (wrap64 (x9_1 - 1)) then (if (wrap64 (x9_1 - 1)) < (l0.length : Int) then (impl_ArePeople.j1 k1 l0 x9_1 l0 (l0.length : Int) x9_1 (decide (((rd_T41 l0 (wrap64 (x9_1 - 1))).f0) ≥ ((rd_T41 l0 x9_1).f0))) ((rd_T41 l0 x9_1).f0) ((rd_T41 l0 x9_1).f1) ((rd_T41 l0 x9_1).f2) ((rd_T41 l0 x9_1).f3)) else (none)) else (none)) else (impl_ArePeople.j1 k1 l0 x9_1 l0 (l0.length : Int) x9_1 false ((rd_T41 l0 x9_1).f0) ((rd_T41 l0 x9_1).f1) ((rd_T41 l0 x9_1).f2) ((rd_T41 l0 x9_1).f3))) = some r := by rw [if_pos rfl] at H; exact H
           clear H; have H := H1; clear H1
           by_cases c16 : x9_1 > 0
           ·rw [if_pos c16] at H
            have c16b0 : decide (0 < x9_1) = true := decide_eq_true c16
            clear c16
            (first | rw [c16b0] | (simp only [i64_w, i32_w]; rw [c16b0]) | skip)
            obtain ⟨ji17, hji17⟩ : ∃ j_ : Int, (wrap64 (x9_1 - 1)) = j_ := ⟨_, rfl⟩
            replace H : (if 0 ≤ (ji17) then (if (ji17) < (l0.length : Int) then (impl_ArePeople.j1 k1 l0 x9_1 l0 (l0.length : Int) x9_1 (decide (((rd_T41 l0 (ji17)).f0) ≥ ((rd_T41 l0 x9_1).f0))) ((rd_T41 l0 x9_1).f0) ((rd_T41 l0 x9_1).f1) ((rd_T41 l0 x9_1).f2) ((rd_T41 l0 x9_1).f3)) else (none)) else (none)) = some r := by first | (rw [hji17] at H; exact H) | (simp only [hji17] at H ⊢; exact H)
            (try rw [hji17] at A8)
            (try rw [hji17] at A10)
            (try rw [hji17] at A12)
            (try rw [hji17] at A14)
            have hji17w : (IntKind.i64.wrap (x9_1 - 1)) = ji17 := (i64_w _).trans hji17
            by_cases c18 : 0 ≤ (ji17)
            ·rw [if_pos c18] at H
             have c18b0 : decide (0 ≤ (ji17)) = true := decide_eq_true c18
             clear c18
             by_cases c19 : (ji17) < (l0.length : Int)
             ·rw [if_pos c19] at H
              have c19b0 : decide ((ji17) < (l0.length : Int)) = true := decide_eq_true c19
              clear c19
              have H' := Aside0.mk H
              clear H
              try go_wp2
              have n0_ : Aside0 (((((w6.setCell ⟨gb209, 0, none⟩ (.int .i64 ((rd_T41 l0 x9_1).f0))).setCell ⟨gb209, 1, none⟩ (.string ((rd_T41 l0 x9_1).f1))).setCell ⟨gb209, 2, none⟩ (.int .i64 ((rd_T41 l0 x9_1).f2))).setCell ⟨gb209, 3, none⟩ (.int .i64 ((rd_T41 l0 x9_1).f3))).heap[gb209]? = some (.cells #[.int .i64 ((rd_T41 l0 x9_1).f0), .string ((rd_T41 l0 x9_1).f1), .int .i64 ((rd_T41 l0 x9_1).f2), .int .i64 ((rd_T41 l0 x9_1).f3)] 41 (0, 0))) := ⟨z24_⟩
              have n1_ : Aside0 (Below w.heap.size w ((((w6.setCell ⟨gb209, 0, none⟩ (.int .i64 ((rd_T41 l0 x9_1).f0))).setCell ⟨gb209, 1, none⟩ (.string ((rd_T41 l0 x9_1).f1))).setCell ⟨gb209, 2, none⟩ (.int .i64 ((rd_T41 l0 x9_1).f2))).setCell ⟨gb209, 3, none⟩ (.int .i64 ((rd_T41 l0 x9_1).f3)))) := ⟨z16_⟩
              (try clear BK209); (try clear HB)
              generalize ((((w6.setCell ⟨gb209, 0, none⟩ (.int .i64 ((rd_T41 l0 x9_1).f0))).setCell ⟨gb209, 1, none⟩ (.string ((rd_T41 l0 x9_1).f1))).setCell ⟨gb209, 2, none⟩ (.int .i64 ((rd_T41 l0 x9_1).f2))).setCell ⟨gb209, 3, none⟩ (.int .i64 ((rd_T41 l0 x9_1).f3))) = w20 at n0_ n1_ ⊢
              have BK209 := n0_; have HB := n1_; clear n0_ n1_
              have n0_ := Aside0.mk (blk_drew BK209.out)
              have n1_ := Aside0.mk (below_drew1 HB.out)
              clear BK209; clear HB; have BK209 := n0_; have HB := n1_; clear n0_ n1_
              have p214 : 0 ≤ ((ji17) : Int) := od_
              have q214 : (ji17) < (l0.length : Int) := od_
              obtain ⟨ad214, e214, hx214_0, hx214_1, hx214_2, hx214_3⟩ := at_T41 HR0.out (ji17) p214 q214
              have hw214_3 := hx214_3; have hw214_2 := hx214_2; have hw214_1 := hx214_1; have hw214_0 := hx214_0
              obtain rfl : ad208 = ad214 := (by injection e214)
              replace hx214_0 := (HB.out.cell (World.block_lt_of_cell? w _ hx214_0)).trans hx214_0
              replace hx214_1 := (HB.out.cell (World.block_lt_of_cell? w _ hx214_1)).trans hx214_1
              replace hx214_2 := (HB.out.cell (World.block_lt_of_cell? w _ hx214_2)).trans hx214_2
              replace hx214_3 := (HB.out.cell (World.block_lt_of_cell? w _ hx214_3)).trans hx214_3
              replace p214 := eq_true p214
              replace q214 := eq_true q214
              refine start_ (n := 37) (S := fun w' => w'.cell? ⟨gb209, 0, none⟩ = some (.int .i64 ((rd_T41 l0 x9_1).f0)) ∧ w'.cell? ⟨gb209, 1, none⟩ = some (.string ((rd_T41 l0 x9_1).f1)) ∧ w'.cell? ⟨gb209, 2, none⟩ = some (.int .i64 ((rd_T41 l0 x9_1).f2)) ∧ w'.cell? ⟨gb209, 3, none⟩ = some (.int .i64 ((rd_T41 l0 x9_1).f3)) ∧ w'.cell? (ad208.add (((ji17)).toNat * 4)) = some (.int .i64 ((rd_T41 l0 (ji17)).f0)) ∧ w'.cell? ⟨(ad208.add (((ji17)).toNat * 4)).block, (ad208.add (((ji17)).toNat * 4)).off + 1, none⟩ = some (.string ((rd_T41 l0 (ji17)).f1)) ∧ w'.cell? ⟨(ad208.add (((ji17)).toNat * 4)).block, (ad208.add (((ji17)).toNat * 4)).off + 2, none⟩ = some (.int .i64 ((rd_T41 l0 (ji17)).f2)) ∧ w'.cell? ⟨(ad208.add (((ji17)).toNat * 4)).block, (ad208.add (((ji17)).toNat * 4)).off + 3, none⟩ = some (.int .i64 ((rd_T41 l0 (ji17)).f3))) (ds := []) #[F,F,F,F,F,F,F,F,F,F,F,F,F,F,F,F,F,F,F,F,F,F,F,F,F,F,F,F,F,F,F,F,F,F,F,F,F] (by kernel_rfl) rfl rfl ⟨(blk_cell BK209.out 0).trans rfl, (blk_cell BK209.out 1).trans rfl, (blk_cell BK209.out 2).trans rfl, (blk_cell BK209.out 3).trans rfl, ((HB.out.cell (World.block_lt_of_cell? w _ hw214_0)).trans hw214_0), ((HB.out.cell (World.block_lt_of_cell? w _ hw214_1)).trans hw214_1), ((HB.out.cell (World.block_lt_of_cell? w _ hw214_2)).trans hw214_2), ((HB.out.cell (World.block_lt_of_cell? w _ hw214_3)).trans hw214_3)⟩ (fun hHeld => ?_); refine with_tabW impl_ArePeople.tab4 impl_ArePeople.bits4 (fun HT_ HW_ => ?_)
              generalize w20.drew = w21 at BK209 HB hx214_0 hx214_1 hx214_2 hx214_3 hHeld ⊢
              refine pv_ 0 (some 14) #[T,F,F,F,F,F,F,F,F,F,F,F,F,F,F,F,F,F,F,F,F,F,F,F,F,F,F,F,F,F,F,F,F,F,F,F,F] HT_.out ?_
              refine tv8_ 1 (some 15) #[T,T,F,F,F,F,F,F,F,F,F,F,F,F,F,F,F,F,F,F,F,F,F,F,F,F,F,F,F,F,F,F,F,F,F,F,F] HT_.out HW_.out hHeld ?_
              refine one_ (i := 2) (N := some 16) #[T,T,T,F,F,F,F,F,F,F,F,F,F,F,F,F,F,F,F,F,F,F,F,F,F,F,F,F,F,F,F,F,F,F,F,F,F] rfl rfl (one_of HT_.out (by kernel_rfl)) (by decide) (fun K hK => ?_)
              refine goes_ Tryz.func55 (by kernel_rfl) rfl #[.int .i64 ((rd_T41 l0 x9_1).f0)] (by rfl) rfl rfl gl_ ?_
              with_reducible refine (impl_isId.calls ((rd_T41 l0 x9_1).f0) true _ A8.out).mono ?_
              rintro e w' ⟨rfl, ⟨nd, rfl⟩⟩
              refine ⟨_, rfl, ?_⟩
              refine hK.out _ _ ⟨(blk_cell BK209.out 0).trans rfl, (blk_cell BK209.out 1).trans rfl, (blk_cell BK209.out 2).trans rfl, (blk_cell BK209.out 3).trans rfl, ((HB.out.cell (World.block_lt_of_cell? w _ hw214_0)).trans hw214_0), ((HB.out.cell (World.block_lt_of_cell? w _ hw214_1)).trans hw214_1), ((HB.out.cell (World.block_lt_of_cell? w _ hw214_2)).trans hw214_2), ((HB.out.cell (World.block_lt_of_cell? w _ hw214_3)).trans hw214_3)⟩ (fun hHeld => ?_)
              clear hK K
              refine nm_ (some 16) ?_
              refine pv_ 3 (some 17) #[T,T,T,T,F,F,F,F,F,F,F,F,F,F,F,F,F,F,F,F,F,F,F,F,F,F,F,F,F,F,F,F,F,F,F,F,F] HT_.out ?_
              refine pv_ 4 (some 18) #[T,T,T,T,T,F,F,F,F,F,F,F,F,F,F,F,F,F,F,F,F,F,F,F,F,F,F,F,F,F,F,F,F,F,F,F,F] HT_.out ?_
              refine pv_ 5 (some 19) #[T,T,T,T,T,T,F,F,F,F,F,F,F,F,F,F,F,F,F,F,F,F,F,F,F,F,F,F,F,F,F,F,F,F,F,F,F] HT_.out ?_
              refine tv8_ 6 (some 20) #[T,T,T,T,T,T,T,F,F,F,F,F,F,F,F,F,F,F,F,F,F,F,F,F,F,F,F,F,F,F,F,F,F,F,F,F,F] HT_.out HW_.out hHeld ?_
              refine one_ (i := 7) (N := some 21) #[T,T,T,T,T,T,T,T,F,F,F,F,F,F,F,F,F,F,F,F,F,F,F,F,F,F,F,F,F,F,F,F,F,F,F,F,F] rfl rfl (one_of HT_.out (by kernel_rfl)) (by decide) (fun K hK => ?_)
              refine goes_ Tryz.func56 (by kernel_rfl) rfl #[.string ((rd_T41 l0 x9_1).f1)] (by rfl) rfl rfl gl_ ?_
              with_reducible refine (impl_isWord.calls ((rd_T41 l0 x9_1).f1) true _ A10.out).mono ?_
              rintro e w22 ⟨rfl, hb⟩
              refine ⟨_, rfl, ?_⟩
              have n0_ := Aside0.mk (blk_below (bk_ BK209) hb)
              have n1_ := Aside0.mk (below_step bx_ hb)
              clear BK209; clear HB; have BK209 := n0_; have HB := n1_; clear n0_ n1_; (try clear hb)
              
              
              
              refine hK.out _ _ ⟨(blk_cell BK209.out 0).trans rfl, (blk_cell BK209.out 1).trans rfl, (blk_cell BK209.out 2).trans rfl, (blk_cell BK209.out 3).trans rfl, ((HB.out.cell (World.block_lt_of_cell? w _ hw214_0)).trans hw214_0), ((HB.out.cell (World.block_lt_of_cell? w _ hw214_1)).trans hw214_1), ((HB.out.cell (World.block_lt_of_cell? w _ hw214_2)).trans hw214_2), ((HB.out.cell (World.block_lt_of_cell? w _ hw214_3)).trans hw214_3)⟩ (fun hHeld => ?_)
              clear hK K
              refine nm_ (some 21) ?_
              refine pv_ 8 (some 22) #[T,T,T,T,T,T,T,T,T,F,F,F,F,F,F,F,F,F,F,F,F,F,F,F,F,F,F,F,F,F,F,F,F,F,F,F,F] HT_.out ?_
              refine pv_ 9 (some 23) #[T,T,T,T,T,T,T,T,T,T,F,F,F,F,F,F,F,F,F,F,F,F,F,F,F,F,F,F,F,F,F,F,F,F,F,F,F] HT_.out ?_
              refine pv_ 10 (some 24) #[T,T,T,T,T,T,T,T,T,T,T,F,F,F,F,F,F,F,F,F,F,F,F,F,F,F,F,F,F,F,F,F,F,F,F,F,F] HT_.out ?_
              refine pv_ 11 (some 25) #[T,T,T,T,T,T,T,T,T,T,T,T,F,F,F,F,F,F,F,F,F,F,F,F,F,F,F,F,F,F,F,F,F,F,F,F,F] HT_.out ?_
              refine tv8_ 12 (some 26) #[T,T,T,T,T,T,T,T,T,T,T,T,T,F,F,F,F,F,F,F,F,F,F,F,F,F,F,F,F,F,F,F,F,F,F,F,F] HT_.out HW_.out hHeld ?_
              refine one_ (i := 13) (N := some 27) #[T,T,T,T,T,T,T,T,T,T,T,T,T,T,F,F,F,F,F,F,F,F,F,F,F,F,F,F,F,F,F,F,F,F,F,F,F] rfl rfl (one_of HT_.out (by kernel_rfl)) (by decide) (fun K hK => ?_)
              refine goes_ Tryz.func34 (by kernel_rfl) rfl #[.int .i64 ((rd_T41 l0 x9_1).f2)] (by rfl) rfl rfl gl_ ?_
              with_reducible refine (impl_areSkills.calls ((rd_T41 l0 x9_1).f2) true _ A12.out).mono ?_
              rintro e w' ⟨rfl, ⟨nd, rfl⟩⟩
              refine ⟨_, rfl, ?_⟩
              refine hK.out _ _ ⟨(blk_cell BK209.out 0).trans rfl, (blk_cell BK209.out 1).trans rfl, (blk_cell BK209.out 2).trans rfl, (blk_cell BK209.out 3).trans rfl, ((HB.out.cell (World.block_lt_of_cell? w _ hw214_0)).trans hw214_0), ((HB.out.cell (World.block_lt_of_cell? w _ hw214_1)).trans hw214_1), ((HB.out.cell (World.block_lt_of_cell? w _ hw214_2)).trans hw214_2), ((HB.out.cell (World.block_lt_of_cell? w _ hw214_3)).trans hw214_3)⟩ (fun hHeld => ?_)
              clear hK K
              refine nm_ (some 27) ?_
              refine pv_ 14 (some 28) #[T,T,T,T,T,T,T,T,T,T,T,T,T,T,T,F,F,F,F,F,F,F,F,F,F,F,F,F,F,F,F,F,F,F,F,F,F] HT_.out ?_
              refine pv_ 15 (some 29) #[T,T,T,T,T,T,T,T,T,T,T,T,T,T,T,T,F,F,F,F,F,F,F,F,F,F,F,F,F,F,F,F,F,F,F,F,F] HT_.out ?_
              refine pv_ 16 (some 30) #[T,T,T,T,T,T,T,T,T,T,T,T,T,T,T,T,T,F,F,F,F,F,F,F,F,F,F,F,F,F,F,F,F,F,F,F,F] HT_.out ?_
              refine pv_ 17 (some 31) #[T,T,T,T,T,T,T,T,T,T,T,T,T,T,T,T,T,T,F,F,F,F,F,F,F,F,F,F,F,F,F,F,F,F,F,F,F] HT_.out ?_
              refine tv8_ 18 (some 32) #[T,T,T,T,T,T,T,T,T,T,T,T,T,T,T,T,T,T,T,F,F,F,F,F,F,F,F,F,F,F,F,F,F,F,F,F,F] HT_.out HW_.out hHeld ?_
              refine one_ (i := 19) (N := some 33) #[T,T,T,T,T,T,T,T,T,T,T,T,T,T,T,T,T,T,T,T,F,F,F,F,F,F,F,F,F,F,F,F,F,F,F,F,F] rfl rfl (one_of HT_.out (by kernel_rfl)) (by decide) (fun K hK => ?_)
              refine goes_ Tryz.func57 (by kernel_rfl) rfl #[.int .i64 ((rd_T41 l0 x9_1).f3), .int .i64 0, .int .i64 500] (by rfl) rfl rfl gl_ ?_
              with_reducible refine (impl_within.calls ((rd_T41 l0 x9_1).f3) 0 500 true _ A14.out).mono ?_
              rintro e w' ⟨rfl, ⟨nd, rfl⟩⟩
              refine ⟨_, rfl, ?_⟩
              refine hK.out _ _ ⟨(blk_cell BK209.out 0).trans rfl, (blk_cell BK209.out 1).trans rfl, (blk_cell BK209.out 2).trans rfl, (blk_cell BK209.out 3).trans rfl, ((HB.out.cell (World.block_lt_of_cell? w _ hw214_0)).trans hw214_0), ((HB.out.cell (World.block_lt_of_cell? w _ hw214_1)).trans hw214_1), ((HB.out.cell (World.block_lt_of_cell? w _ hw214_2)).trans hw214_2), ((HB.out.cell (World.block_lt_of_cell? w _ hw214_3)).trans hw214_3)⟩ (fun hHeld => ?_)
              clear hK K
              refine nm_ (some 33) ?_
              refine pv_ 20 (some 34) #[T,T,T,T,T,T,T,T,T,T,T,T,T,T,T,T,T,T,T,T,T,F,F,F,F,F,F,F,F,F,F,F,F,F,F,F,F] HT_.out ?_
              refine pv_ 21 (some 35) #[T,T,T,T,T,T,T,T,T,T,T,T,T,T,T,T,T,T,T,T,T,T,F,F,F,F,F,F,F,F,F,F,F,F,F,F,F] HT_.out ?_
              refine pv_ 22 (some 36) #[T,T,T,T,T,T,T,T,T,T,T,T,T,T,T,T,T,T,T,T,T,T,T,F,F,F,F,F,F,F,F,F,F,F,F,F,F] HT_.out ?_
              refine pv_ 23 (some 37) #[T,T,T,T,T,T,T,T,T,T,T,T,T,T,T,T,T,T,T,T,T,T,T,T,F,F,F,F,F,F,F,F,F,F,F,F,F] HT_.out ?_
              refine pv_ 24 (some 38) #[T,T,T,T,T,T,T,T,T,T,T,T,T,T,T,T,T,T,T,T,T,T,T,T,T,F,F,F,F,F,F,F,F,F,F,F,F] HT_.out ?_
              refine pv_ 25 (some 39) #[T,T,T,T,T,T,T,T,T,T,T,T,T,T,T,T,T,T,T,T,T,T,T,T,T,T,F,F,F,F,F,F,F,F,F,F,F] HT_.out ?_
              refine pv_ 26 (some 40) #[T,T,T,T,T,T,T,T,T,T,T,T,T,T,T,T,T,T,T,T,T,T,T,T,T,T,T,F,F,F,F,F,F,F,F,F,F] HT_.out ?_
              refine pv_ 27 (some 41) #[T,T,T,T,T,T,T,T,T,T,T,T,T,T,T,T,T,T,T,T,T,T,T,T,T,T,T,T,F,F,F,F,F,F,F,F,F] HT_.out ?_
              refine pv_ 28 (some 42) #[T,T,T,T,T,T,T,T,T,T,T,T,T,T,T,T,T,T,T,T,T,T,T,T,T,T,T,T,T,F,F,F,F,F,F,F,F] HT_.out ?_
              refine pv_ 29 (some 43) #[T,T,T,T,T,T,T,T,T,T,T,T,T,T,T,T,T,T,T,T,T,T,T,T,T,T,T,T,T,T,F,F,F,F,F,F,F] HT_.out ?_
              refine pv_ 30 (some 44) #[T,T,T,T,T,T,T,T,T,T,T,T,T,T,T,T,T,T,T,T,T,T,T,T,T,T,T,T,T,T,T,F,F,F,F,F,F] HT_.out ?_
              refine pv_ 32 (some 46) #[T,T,T,T,T,T,T,T,T,T,T,T,T,T,T,T,T,T,T,T,T,T,T,T,T,T,T,T,T,T,T,F,T,F,F,F,F] HT_.out ?_
              refine tv8_ 31 (some 45) #[T,T,T,T,T,T,T,T,T,T,T,T,T,T,T,T,T,T,T,T,T,T,T,T,T,T,T,T,T,T,T,T,T,F,F,F,F] HT_.out HW_.out hHeld ?_
              refine tv8_ 33 (some 47) #[T,T,T,T,T,T,T,T,T,T,T,T,T,T,T,T,T,T,T,T,T,T,T,T,T,T,T,T,T,T,T,T,T,T,F,F,F] HT_.out HW_.out hHeld ?_
              refine pv_ 34 (some 48) #[T,T,T,T,T,T,T,T,T,T,T,T,T,T,T,T,T,T,T,T,T,T,T,T,T,T,T,T,T,T,T,T,T,T,T,F,F] HT_.out ?_
              refine pv_ 35 (some 49) #[T,T,T,T,T,T,T,T,T,T,T,T,T,T,T,T,T,T,T,T,T,T,T,T,T,T,T,T,T,T,T,T,T,T,T,T,F] HT_.out ?_
              refine pv_ 36 (some 50) #[T,T,T,T,T,T,T,T,T,T,T,T,T,T,T,T,T,T,T,T,T,T,T,T,T,T,T,T,T,T,T,T,T,T,T,T,T] HT_.out ?_
              refine done_ (done_of HT_.out (by kernel_rfl)) ?_
              try go_wp2
              go_meet
              case rel => exact ⟨_, (decide (((rd_T41 l0 (ji17)).f0) ≥ ((rd_T41 l0 x9_1).f0))), (by first | rfl | (simp; done) | (simp only [← hji17] <;> (first | rfl | simp)) | (simp [*]; done)), H', ⟨by have := HK1.out; first | omega | exact Nat.le_refl _⟩, ⟨z17_⟩, ⟨z16_⟩⟩
             ·rw [if_neg c19] at H
              exact absurd H (by simp)
            ·rw [if_neg c18] at H
             exact absurd H (by simp)
           ·rw [if_neg c16] at H
            have c16b0 : decide (0 < x9_1) = false := decide_eq_false c16
            clear c16
            (first | rw [c16b0] | (simp only [i64_w, i32_w]; rw [c16b0]) | skip)
            have H' := Aside0.mk H
            clear H
            try go_wp2
            have n0_ : Aside0 (((((w6.setCell ⟨gb209, 0, none⟩ (.int .i64 ((rd_T41 l0 x9_1).f0))).setCell ⟨gb209, 1, none⟩ (.string ((rd_T41 l0 x9_1).f1))).setCell ⟨gb209, 2, none⟩ (.int .i64 ((rd_T41 l0 x9_1).f2))).setCell ⟨gb209, 3, none⟩ (.int .i64 ((rd_T41 l0 x9_1).f3))).heap[gb209]? = some (.cells #[.int .i64 ((rd_T41 l0 x9_1).f0), .string ((rd_T41 l0 x9_1).f1), .int .i64 ((rd_T41 l0 x9_1).f2), .int .i64 ((rd_T41 l0 x9_1).f3)] 41 (0, 0))) := ⟨z24_⟩
            have n1_ : Aside0 (Below w.heap.size w ((((w6.setCell ⟨gb209, 0, none⟩ (.int .i64 ((rd_T41 l0 x9_1).f0))).setCell ⟨gb209, 1, none⟩ (.string ((rd_T41 l0 x9_1).f1))).setCell ⟨gb209, 2, none⟩ (.int .i64 ((rd_T41 l0 x9_1).f2))).setCell ⟨gb209, 3, none⟩ (.int .i64 ((rd_T41 l0 x9_1).f3)))) := ⟨z16_⟩
            (try clear BK209); (try clear HB)
            generalize ((((w6.setCell ⟨gb209, 0, none⟩ (.int .i64 ((rd_T41 l0 x9_1).f0))).setCell ⟨gb209, 1, none⟩ (.string ((rd_T41 l0 x9_1).f1))).setCell ⟨gb209, 2, none⟩ (.int .i64 ((rd_T41 l0 x9_1).f2))).setCell ⟨gb209, 3, none⟩ (.int .i64 ((rd_T41 l0 x9_1).f3))) = w23 at n0_ n1_ ⊢
            have BK209 := n0_; have HB := n1_; clear n0_ n1_
            have n0_ := Aside0.mk (blk_drew BK209.out)
            have n1_ := Aside0.mk (below_drew1 HB.out)
            clear BK209; clear HB; have BK209 := n0_; have HB := n1_; clear n0_ n1_
            refine start_ (n := 37) (S := fun w' => w'.cell? ⟨gb209, 0, none⟩ = some (.int .i64 ((rd_T41 l0 x9_1).f0)) ∧ w'.cell? ⟨gb209, 1, none⟩ = some (.string ((rd_T41 l0 x9_1).f1)) ∧ w'.cell? ⟨gb209, 2, none⟩ = some (.int .i64 ((rd_T41 l0 x9_1).f2)) ∧ w'.cell? ⟨gb209, 3, none⟩ = some (.int .i64 ((rd_T41 l0 x9_1).f3))) (ds := []) #[F,F,F,F,F,F,F,F,F,F,F,F,F,F,F,F,F,F,F,F,F,F,F,F,F,F,F,F,F,F,F,F,F,F,F,F,F] (by kernel_rfl) rfl rfl ⟨(blk_cell BK209.out 0).trans rfl, (blk_cell BK209.out 1).trans rfl, (blk_cell BK209.out 2).trans rfl, (blk_cell BK209.out 3).trans rfl⟩ (fun hHeld => ?_); refine with_tabW impl_ArePeople.tab4 impl_ArePeople.bits4 (fun HT_ HW_ => ?_)
            generalize w23.drew = w24 at BK209 HB hHeld ⊢
            refine pv_ 0 (some 14) #[T,F,F,F,F,F,F,F,F,F,F,F,F,F,F,F,F,F,F,F,F,F,F,F,F,F,F,F,F,F,F,F,F,F,F,F,F] HT_.out ?_
            refine tv4_ 1 (some 15) #[T,T,F,F,F,F,F,F,F,F,F,F,F,F,F,F,F,F,F,F,F,F,F,F,F,F,F,F,F,F,F,F,F,F,F,F,F] HT_.out HW_.out hHeld ?_
            refine one_ (i := 2) (N := some 16) #[T,T,T,F,F,F,F,F,F,F,F,F,F,F,F,F,F,F,F,F,F,F,F,F,F,F,F,F,F,F,F,F,F,F,F,F,F] rfl rfl (one_of HT_.out (by kernel_rfl)) (by decide) (fun K hK => ?_)
            refine goes_ Tryz.func55 (by kernel_rfl) rfl #[.int .i64 ((rd_T41 l0 x9_1).f0)] (by rfl) rfl rfl gl_ ?_
            with_reducible refine (impl_isId.calls ((rd_T41 l0 x9_1).f0) true _ A8.out).mono ?_
            rintro e w' ⟨rfl, ⟨nd, rfl⟩⟩
            refine ⟨_, rfl, ?_⟩
            refine hK.out _ _ ⟨(blk_cell BK209.out 0).trans rfl, (blk_cell BK209.out 1).trans rfl, (blk_cell BK209.out 2).trans rfl, (blk_cell BK209.out 3).trans rfl⟩ (fun hHeld => ?_)
            clear hK K
            refine nm_ (some 16) ?_
            refine pv_ 3 (some 17) #[T,T,T,T,F,F,F,F,F,F,F,F,F,F,F,F,F,F,F,F,F,F,F,F,F,F,F,F,F,F,F,F,F,F,F,F,F] HT_.out ?_
            refine pv_ 4 (some 18) #[T,T,T,T,T,F,F,F,F,F,F,F,F,F,F,F,F,F,F,F,F,F,F,F,F,F,F,F,F,F,F,F,F,F,F,F,F] HT_.out ?_
            refine pv_ 5 (some 19) #[T,T,T,T,T,T,F,F,F,F,F,F,F,F,F,F,F,F,F,F,F,F,F,F,F,F,F,F,F,F,F,F,F,F,F,F,F] HT_.out ?_
            refine tv4_ 6 (some 20) #[T,T,T,T,T,T,T,F,F,F,F,F,F,F,F,F,F,F,F,F,F,F,F,F,F,F,F,F,F,F,F,F,F,F,F,F,F] HT_.out HW_.out hHeld ?_
            refine one_ (i := 7) (N := some 21) #[T,T,T,T,T,T,T,T,F,F,F,F,F,F,F,F,F,F,F,F,F,F,F,F,F,F,F,F,F,F,F,F,F,F,F,F,F] rfl rfl (one_of HT_.out (by kernel_rfl)) (by decide) (fun K hK => ?_)
            refine goes_ Tryz.func56 (by kernel_rfl) rfl #[.string ((rd_T41 l0 x9_1).f1)] (by rfl) rfl rfl gl_ ?_
            with_reducible refine (impl_isWord.calls ((rd_T41 l0 x9_1).f1) true _ A10.out).mono ?_
            rintro e w25 ⟨rfl, hb⟩
            refine ⟨_, rfl, ?_⟩
            have n0_ := Aside0.mk (blk_below (bk_ BK209) hb)
            have n1_ := Aside0.mk (below_step bx_ hb)
            clear BK209; clear HB; have BK209 := n0_; have HB := n1_; clear n0_ n1_; (try clear hb)
            
            
            
            refine hK.out _ _ ⟨(blk_cell BK209.out 0).trans rfl, (blk_cell BK209.out 1).trans rfl, (blk_cell BK209.out 2).trans rfl, (blk_cell BK209.out 3).trans rfl⟩ (fun hHeld => ?_)
            clear hK K
            refine nm_ (some 21) ?_
            refine pv_ 8 (some 22) #[T,T,T,T,T,T,T,T,T,F,F,F,F,F,F,F,F,F,F,F,F,F,F,F,F,F,F,F,F,F,F,F,F,F,F,F,F] HT_.out ?_
            refine pv_ 9 (some 23) #[T,T,T,T,T,T,T,T,T,T,F,F,F,F,F,F,F,F,F,F,F,F,F,F,F,F,F,F,F,F,F,F,F,F,F,F,F] HT_.out ?_
            refine pv_ 10 (some 24) #[T,T,T,T,T,T,T,T,T,T,T,F,F,F,F,F,F,F,F,F,F,F,F,F,F,F,F,F,F,F,F,F,F,F,F,F,F] HT_.out ?_
            refine pv_ 11 (some 25) #[T,T,T,T,T,T,T,T,T,T,T,T,F,F,F,F,F,F,F,F,F,F,F,F,F,F,F,F,F,F,F,F,F,F,F,F,F] HT_.out ?_
            refine tv4_ 12 (some 26) #[T,T,T,T,T,T,T,T,T,T,T,T,T,F,F,F,F,F,F,F,F,F,F,F,F,F,F,F,F,F,F,F,F,F,F,F,F] HT_.out HW_.out hHeld ?_
            refine one_ (i := 13) (N := some 27) #[T,T,T,T,T,T,T,T,T,T,T,T,T,T,F,F,F,F,F,F,F,F,F,F,F,F,F,F,F,F,F,F,F,F,F,F,F] rfl rfl (one_of HT_.out (by kernel_rfl)) (by decide) (fun K hK => ?_)
            refine goes_ Tryz.func34 (by kernel_rfl) rfl #[.int .i64 ((rd_T41 l0 x9_1).f2)] (by rfl) rfl rfl gl_ ?_
            with_reducible refine (impl_areSkills.calls ((rd_T41 l0 x9_1).f2) true _ A12.out).mono ?_
            rintro e w' ⟨rfl, ⟨nd, rfl⟩⟩
            refine ⟨_, rfl, ?_⟩
            refine hK.out _ _ ⟨(blk_cell BK209.out 0).trans rfl, (blk_cell BK209.out 1).trans rfl, (blk_cell BK209.out 2).trans rfl, (blk_cell BK209.out 3).trans rfl⟩ (fun hHeld => ?_)
            clear hK K
            refine nm_ (some 27) ?_
            refine pv_ 14 (some 28) #[T,T,T,T,T,T,T,T,T,T,T,T,T,T,T,F,F,F,F,F,F,F,F,F,F,F,F,F,F,F,F,F,F,F,F,F,F] HT_.out ?_
            refine pv_ 15 (some 29) #[T,T,T,T,T,T,T,T,T,T,T,T,T,T,T,T,F,F,F,F,F,F,F,F,F,F,F,F,F,F,F,F,F,F,F,F,F] HT_.out ?_
            refine pv_ 16 (some 30) #[T,T,T,T,T,T,T,T,T,T,T,T,T,T,T,T,T,F,F,F,F,F,F,F,F,F,F,F,F,F,F,F,F,F,F,F,F] HT_.out ?_
            refine pv_ 17 (some 31) #[T,T,T,T,T,T,T,T,T,T,T,T,T,T,T,T,T,T,F,F,F,F,F,F,F,F,F,F,F,F,F,F,F,F,F,F,F] HT_.out ?_
            refine tv4_ 18 (some 32) #[T,T,T,T,T,T,T,T,T,T,T,T,T,T,T,T,T,T,T,F,F,F,F,F,F,F,F,F,F,F,F,F,F,F,F,F,F] HT_.out HW_.out hHeld ?_
            refine one_ (i := 19) (N := some 33) #[T,T,T,T,T,T,T,T,T,T,T,T,T,T,T,T,T,T,T,T,F,F,F,F,F,F,F,F,F,F,F,F,F,F,F,F,F] rfl rfl (one_of HT_.out (by kernel_rfl)) (by decide) (fun K hK => ?_)
            refine goes_ Tryz.func57 (by kernel_rfl) rfl #[.int .i64 ((rd_T41 l0 x9_1).f3), .int .i64 0, .int .i64 500] (by rfl) rfl rfl gl_ ?_
            with_reducible refine (impl_within.calls ((rd_T41 l0 x9_1).f3) 0 500 true _ A14.out).mono ?_
            rintro e w' ⟨rfl, ⟨nd, rfl⟩⟩
            refine ⟨_, rfl, ?_⟩
            refine hK.out _ _ ⟨(blk_cell BK209.out 0).trans rfl, (blk_cell BK209.out 1).trans rfl, (blk_cell BK209.out 2).trans rfl, (blk_cell BK209.out 3).trans rfl⟩ (fun hHeld => ?_)
            clear hK K
            refine nm_ (some 33) ?_
            refine pv_ 20 (some 34) #[T,T,T,T,T,T,T,T,T,T,T,T,T,T,T,T,T,T,T,T,T,F,F,F,F,F,F,F,F,F,F,F,F,F,F,F,F] HT_.out ?_
            refine pv_ 21 (some 35) #[T,T,T,T,T,T,T,T,T,T,T,T,T,T,T,T,T,T,T,T,T,T,F,F,F,F,F,F,F,F,F,F,F,F,F,F,F] HT_.out ?_
            refine pv_ 22 (some 36) #[T,T,T,T,T,T,T,T,T,T,T,T,T,T,T,T,T,T,T,T,T,T,T,F,F,F,F,F,F,F,F,F,F,F,F,F,F] HT_.out ?_
            refine pv_ 23 (some 37) #[T,T,T,T,T,T,T,T,T,T,T,T,T,T,T,T,T,T,T,T,T,T,T,T,F,F,F,F,F,F,F,F,F,F,F,F,F] HT_.out ?_
            refine pv_ 24 (some 38) #[T,T,T,T,T,T,T,T,T,T,T,T,T,T,T,T,T,T,T,T,T,T,T,T,T,F,F,F,F,F,F,F,F,F,F,F,F] HT_.out ?_
            refine pv_ 25 (some 39) #[T,T,T,T,T,T,T,T,T,T,T,T,T,T,T,T,T,T,T,T,T,T,T,T,T,T,F,F,F,F,F,F,F,F,F,F,F] HT_.out ?_
            refine pu_ 26 (some 40) #[T,T,T,T,T,T,T,T,T,T,T,T,T,T,T,T,T,T,T,T,T,T,T,T,T,T,T,F,F,F,F,F,F,F,F,F,F] HT_.out ?_
            refine pu_ 27 (some 41) #[T,T,T,T,T,T,T,T,T,T,T,T,T,T,T,T,T,T,T,T,T,T,T,T,T,T,T,T,F,F,F,F,F,F,F,F,F] HT_.out ?_
            refine pu_ 28 (some 42) #[T,T,T,T,T,T,T,T,T,T,T,T,T,T,T,T,T,T,T,T,T,T,T,T,T,T,T,T,T,F,F,F,F,F,F,F,F] HT_.out ?_
            refine pu_ 29 (some 43) #[T,T,T,T,T,T,T,T,T,T,T,T,T,T,T,T,T,T,T,T,T,T,T,T,T,T,T,T,T,T,F,F,F,F,F,F,F] HT_.out ?_
            refine pu_ 30 (some 44) #[T,T,T,T,T,T,T,T,T,T,T,T,T,T,T,T,T,T,T,T,T,T,T,T,T,T,T,T,T,T,T,F,F,F,F,F,F] HT_.out ?_
            refine pu_ 31 (some 45) #[T,T,T,T,T,T,T,T,T,T,T,T,T,T,T,T,T,T,T,T,T,T,T,T,T,T,T,T,T,T,T,T,F,F,F,F,F] HT_.out ?_
            refine pu_ 32 (some 46) #[T,T,T,T,T,T,T,T,T,T,T,T,T,T,T,T,T,T,T,T,T,T,T,T,T,T,T,T,T,T,T,T,T,F,F,F,F] HT_.out ?_
            refine pu_ 33 (some 47) #[T,T,T,T,T,T,T,T,T,T,T,T,T,T,T,T,T,T,T,T,T,T,T,T,T,T,T,T,T,T,T,T,T,T,F,F,F] HT_.out ?_
            refine pu_ 34 (some 48) #[T,T,T,T,T,T,T,T,T,T,T,T,T,T,T,T,T,T,T,T,T,T,T,T,T,T,T,T,T,T,T,T,T,T,T,F,F] HT_.out ?_
            refine pv_ 35 (some 49) #[T,T,T,T,T,T,T,T,T,T,T,T,T,T,T,T,T,T,T,T,T,T,T,T,T,T,T,T,T,T,T,T,T,T,T,T,F] HT_.out ?_
            refine pv_ 36 (some 50) #[T,T,T,T,T,T,T,T,T,T,T,T,T,T,T,T,T,T,T,T,T,T,T,T,T,T,T,T,T,T,T,T,T,T,T,T,T] HT_.out ?_
            refine done_ (done_of HT_.out (by kernel_rfl)) ?_
            try go_wp2
            go_meet
            case rel => exact ⟨_, (false), z2_, H', ⟨by have := HK1.out; first | omega | exact Nat.le_refl _⟩, ⟨z17_⟩, ⟨z16_⟩⟩
          ·replace c15 := Bool.eq_false_iff.mpr c15
           subst c15
           have H1 : (impl_ArePeople.j1 k1 l0 x9_1 l0 (l0.length : Int) x9_1 true ((rd_T41 l0 x9_1).f0) ((rd_T41 l0 x9_1).f1) ((rd_T41 l0 x9_1).f2) ((rd_T41 l0 x9_1).f3)) = some r := by rw [if_neg (show ¬ (false = true) by decide)] at H; exact H
           clear H; have H := H1; clear H1
           have H' := Aside0.mk H
           clear H
           try go_wp2
           have n0_ : Aside0 (((((w6.setCell ⟨gb209, 0, none⟩ (.int .i64 ((rd_T41 l0 x9_1).f0))).setCell ⟨gb209, 1, none⟩ (.string ((rd_T41 l0 x9_1).f1))).setCell ⟨gb209, 2, none⟩ (.int .i64 ((rd_T41 l0 x9_1).f2))).setCell ⟨gb209, 3, none⟩ (.int .i64 ((rd_T41 l0 x9_1).f3))).heap[gb209]? = some (.cells #[.int .i64 ((rd_T41 l0 x9_1).f0), .string ((rd_T41 l0 x9_1).f1), .int .i64 ((rd_T41 l0 x9_1).f2), .int .i64 ((rd_T41 l0 x9_1).f3)] 41 (0, 0))) := ⟨z24_⟩
           have n1_ : Aside0 (Below w.heap.size w ((((w6.setCell ⟨gb209, 0, none⟩ (.int .i64 ((rd_T41 l0 x9_1).f0))).setCell ⟨gb209, 1, none⟩ (.string ((rd_T41 l0 x9_1).f1))).setCell ⟨gb209, 2, none⟩ (.int .i64 ((rd_T41 l0 x9_1).f2))).setCell ⟨gb209, 3, none⟩ (.int .i64 ((rd_T41 l0 x9_1).f3)))) := ⟨z16_⟩
           (try clear BK209); (try clear HB)
           generalize ((((w6.setCell ⟨gb209, 0, none⟩ (.int .i64 ((rd_T41 l0 x9_1).f0))).setCell ⟨gb209, 1, none⟩ (.string ((rd_T41 l0 x9_1).f1))).setCell ⟨gb209, 2, none⟩ (.int .i64 ((rd_T41 l0 x9_1).f2))).setCell ⟨gb209, 3, none⟩ (.int .i64 ((rd_T41 l0 x9_1).f3))) = w26 at n0_ n1_ ⊢
           have BK209 := n0_; have HB := n1_; clear n0_ n1_
           have n0_ := Aside0.mk (blk_drew BK209.out)
           have n1_ := Aside0.mk (below_drew1 HB.out)
           clear BK209; clear HB; have BK209 := n0_; have HB := n1_; clear n0_ n1_
           refine start_ (n := 37) (S := fun w' => w'.cell? ⟨gb209, 0, none⟩ = some (.int .i64 ((rd_T41 l0 x9_1).f0)) ∧ w'.cell? ⟨gb209, 1, none⟩ = some (.string ((rd_T41 l0 x9_1).f1)) ∧ w'.cell? ⟨gb209, 2, none⟩ = some (.int .i64 ((rd_T41 l0 x9_1).f2)) ∧ w'.cell? ⟨gb209, 3, none⟩ = some (.int .i64 ((rd_T41 l0 x9_1).f3))) (ds := []) #[F,F,F,F,F,F,F,F,F,F,F,F,F,F,F,F,F,F,F,F,F,F,F,F,F,F,F,F,F,F,F,F,F,F,F,F,F] (by kernel_rfl) rfl rfl ⟨(blk_cell BK209.out 0).trans rfl, (blk_cell BK209.out 1).trans rfl, (blk_cell BK209.out 2).trans rfl, (blk_cell BK209.out 3).trans rfl⟩ (fun hHeld => ?_); refine with_tabW impl_ArePeople.tab4 impl_ArePeople.bits4 (fun HT_ HW_ => ?_)
           generalize w26.drew = w27 at BK209 HB hHeld ⊢
           refine pv_ 0 (some 14) #[T,F,F,F,F,F,F,F,F,F,F,F,F,F,F,F,F,F,F,F,F,F,F,F,F,F,F,F,F,F,F,F,F,F,F,F,F] HT_.out ?_
           refine tv4_ 1 (some 15) #[T,T,F,F,F,F,F,F,F,F,F,F,F,F,F,F,F,F,F,F,F,F,F,F,F,F,F,F,F,F,F,F,F,F,F,F,F] HT_.out HW_.out hHeld ?_
           refine one_ (i := 2) (N := some 16) #[T,T,T,F,F,F,F,F,F,F,F,F,F,F,F,F,F,F,F,F,F,F,F,F,F,F,F,F,F,F,F,F,F,F,F,F,F] rfl rfl (one_of HT_.out (by kernel_rfl)) (by decide) (fun K hK => ?_)
           refine goes_ Tryz.func55 (by kernel_rfl) rfl #[.int .i64 ((rd_T41 l0 x9_1).f0)] (by rfl) rfl rfl gl_ ?_
           with_reducible refine (impl_isId.calls ((rd_T41 l0 x9_1).f0) true _ A8.out).mono ?_
           rintro e w' ⟨rfl, ⟨nd, rfl⟩⟩
           refine ⟨_, rfl, ?_⟩
           refine hK.out _ _ ⟨(blk_cell BK209.out 0).trans rfl, (blk_cell BK209.out 1).trans rfl, (blk_cell BK209.out 2).trans rfl, (blk_cell BK209.out 3).trans rfl⟩ (fun hHeld => ?_)
           clear hK K
           refine nm_ (some 16) ?_
           refine pv_ 3 (some 17) #[T,T,T,T,F,F,F,F,F,F,F,F,F,F,F,F,F,F,F,F,F,F,F,F,F,F,F,F,F,F,F,F,F,F,F,F,F] HT_.out ?_
           refine pv_ 4 (some 18) #[T,T,T,T,T,F,F,F,F,F,F,F,F,F,F,F,F,F,F,F,F,F,F,F,F,F,F,F,F,F,F,F,F,F,F,F,F] HT_.out ?_
           refine pv_ 5 (some 19) #[T,T,T,T,T,T,F,F,F,F,F,F,F,F,F,F,F,F,F,F,F,F,F,F,F,F,F,F,F,F,F,F,F,F,F,F,F] HT_.out ?_
           refine tv4_ 6 (some 20) #[T,T,T,T,T,T,T,F,F,F,F,F,F,F,F,F,F,F,F,F,F,F,F,F,F,F,F,F,F,F,F,F,F,F,F,F,F] HT_.out HW_.out hHeld ?_
           refine one_ (i := 7) (N := some 21) #[T,T,T,T,T,T,T,T,F,F,F,F,F,F,F,F,F,F,F,F,F,F,F,F,F,F,F,F,F,F,F,F,F,F,F,F,F] rfl rfl (one_of HT_.out (by kernel_rfl)) (by decide) (fun K hK => ?_)
           refine goes_ Tryz.func56 (by kernel_rfl) rfl #[.string ((rd_T41 l0 x9_1).f1)] (by rfl) rfl rfl gl_ ?_
           with_reducible refine (impl_isWord.calls ((rd_T41 l0 x9_1).f1) true _ A10.out).mono ?_
           rintro e w28 ⟨rfl, hb⟩
           refine ⟨_, rfl, ?_⟩
           have n0_ := Aside0.mk (blk_below (bk_ BK209) hb)
           have n1_ := Aside0.mk (below_step bx_ hb)
           clear BK209; clear HB; have BK209 := n0_; have HB := n1_; clear n0_ n1_; (try clear hb)
           
           
           
           refine hK.out _ _ ⟨(blk_cell BK209.out 0).trans rfl, (blk_cell BK209.out 1).trans rfl, (blk_cell BK209.out 2).trans rfl, (blk_cell BK209.out 3).trans rfl⟩ (fun hHeld => ?_)
           clear hK K
           refine nm_ (some 21) ?_
           refine pv_ 8 (some 22) #[T,T,T,T,T,T,T,T,T,F,F,F,F,F,F,F,F,F,F,F,F,F,F,F,F,F,F,F,F,F,F,F,F,F,F,F,F] HT_.out ?_
           refine pv_ 9 (some 23) #[T,T,T,T,T,T,T,T,T,T,F,F,F,F,F,F,F,F,F,F,F,F,F,F,F,F,F,F,F,F,F,F,F,F,F,F,F] HT_.out ?_
           refine pv_ 10 (some 24) #[T,T,T,T,T,T,T,T,T,T,T,F,F,F,F,F,F,F,F,F,F,F,F,F,F,F,F,F,F,F,F,F,F,F,F,F,F] HT_.out ?_
           refine pv_ 11 (some 25) #[T,T,T,T,T,T,T,T,T,T,T,T,F,F,F,F,F,F,F,F,F,F,F,F,F,F,F,F,F,F,F,F,F,F,F,F,F] HT_.out ?_
           refine tv4_ 12 (some 26) #[T,T,T,T,T,T,T,T,T,T,T,T,T,F,F,F,F,F,F,F,F,F,F,F,F,F,F,F,F,F,F,F,F,F,F,F,F] HT_.out HW_.out hHeld ?_
           refine one_ (i := 13) (N := some 27) #[T,T,T,T,T,T,T,T,T,T,T,T,T,T,F,F,F,F,F,F,F,F,F,F,F,F,F,F,F,F,F,F,F,F,F,F,F] rfl rfl (one_of HT_.out (by kernel_rfl)) (by decide) (fun K hK => ?_)
           refine goes_ Tryz.func34 (by kernel_rfl) rfl #[.int .i64 ((rd_T41 l0 x9_1).f2)] (by rfl) rfl rfl gl_ ?_
           with_reducible refine (impl_areSkills.calls ((rd_T41 l0 x9_1).f2) true _ A12.out).mono ?_
           rintro e w' ⟨rfl, ⟨nd, rfl⟩⟩
           refine ⟨_, rfl, ?_⟩
           refine hK.out _ _ ⟨(blk_cell BK209.out 0).trans rfl, (blk_cell BK209.out 1).trans rfl, (blk_cell BK209.out 2).trans rfl, (blk_cell BK209.out 3).trans rfl⟩ (fun hHeld => ?_)
           clear hK K
           refine nm_ (some 27) ?_
           refine pv_ 14 (some 28) #[T,T,T,T,T,T,T,T,T,T,T,T,T,T,T,F,F,F,F,F,F,F,F,F,F,F,F,F,F,F,F,F,F,F,F,F,F] HT_.out ?_
           refine pv_ 15 (some 29) #[T,T,T,T,T,T,T,T,T,T,T,T,T,T,T,T,F,F,F,F,F,F,F,F,F,F,F,F,F,F,F,F,F,F,F,F,F] HT_.out ?_
           refine pv_ 16 (some 30) #[T,T,T,T,T,T,T,T,T,T,T,T,T,T,T,T,T,F,F,F,F,F,F,F,F,F,F,F,F,F,F,F,F,F,F,F,F] HT_.out ?_
           refine pv_ 17 (some 31) #[T,T,T,T,T,T,T,T,T,T,T,T,T,T,T,T,T,T,F,F,F,F,F,F,F,F,F,F,F,F,F,F,F,F,F,F,F] HT_.out ?_
           refine tv4_ 18 (some 32) #[T,T,T,T,T,T,T,T,T,T,T,T,T,T,T,T,T,T,T,F,F,F,F,F,F,F,F,F,F,F,F,F,F,F,F,F,F] HT_.out HW_.out hHeld ?_
           refine one_ (i := 19) (N := some 33) #[T,T,T,T,T,T,T,T,T,T,T,T,T,T,T,T,T,T,T,T,F,F,F,F,F,F,F,F,F,F,F,F,F,F,F,F,F] rfl rfl (one_of HT_.out (by kernel_rfl)) (by decide) (fun K hK => ?_)
           refine goes_ Tryz.func57 (by kernel_rfl) rfl #[.int .i64 ((rd_T41 l0 x9_1).f3), .int .i64 0, .int .i64 500] (by rfl) rfl rfl gl_ ?_
           with_reducible refine (impl_within.calls ((rd_T41 l0 x9_1).f3) 0 500 false _ A14.out).mono ?_
           rintro e w' ⟨rfl, ⟨nd, rfl⟩⟩
           refine ⟨_, rfl, ?_⟩
           refine hK.out _ _ ⟨(blk_cell BK209.out 0).trans rfl, (blk_cell BK209.out 1).trans rfl, (blk_cell BK209.out 2).trans rfl, (blk_cell BK209.out 3).trans rfl⟩ (fun hHeld => ?_)
           clear hK K
           refine nm_ (some 33) ?_
           refine pv_ 20 (some 34) #[T,T,T,T,T,T,T,T,T,T,T,T,T,T,T,T,T,T,T,T,T,F,F,F,F,F,F,F,F,F,F,F,F,F,F,F,F] HT_.out ?_
           refine pv_ 21 (some 35) #[T,T,T,T,T,T,T,T,T,T,T,T,T,T,T,T,T,T,T,T,T,T,F,F,F,F,F,F,F,F,F,F,F,F,F,F,F] HT_.out ?_
           refine pv_ 22 (some 36) #[T,T,T,T,T,T,T,T,T,T,T,T,T,T,T,T,T,T,T,T,T,T,T,F,F,F,F,F,F,F,F,F,F,F,F,F,F] HT_.out ?_
           refine pu_ 23 (some 37) #[T,T,T,T,T,T,T,T,T,T,T,T,T,T,T,T,T,T,T,T,T,T,T,T,F,F,F,F,F,F,F,F,F,F,F,F,F] HT_.out ?_
           refine pu_ 24 (some 38) #[T,T,T,T,T,T,T,T,T,T,T,T,T,T,T,T,T,T,T,T,T,T,T,T,T,F,F,F,F,F,F,F,F,F,F,F,F] HT_.out ?_
           refine pu_ 25 (some 39) #[T,T,T,T,T,T,T,T,T,T,T,T,T,T,T,T,T,T,T,T,T,T,T,T,T,T,F,F,F,F,F,F,F,F,F,F,F] HT_.out ?_
           refine pu_ 26 (some 40) #[T,T,T,T,T,T,T,T,T,T,T,T,T,T,T,T,T,T,T,T,T,T,T,T,T,T,T,F,F,F,F,F,F,F,F,F,F] HT_.out ?_
           refine pu_ 27 (some 41) #[T,T,T,T,T,T,T,T,T,T,T,T,T,T,T,T,T,T,T,T,T,T,T,T,T,T,T,T,F,F,F,F,F,F,F,F,F] HT_.out ?_
           refine pu_ 28 (some 42) #[T,T,T,T,T,T,T,T,T,T,T,T,T,T,T,T,T,T,T,T,T,T,T,T,T,T,T,T,T,F,F,F,F,F,F,F,F] HT_.out ?_
           refine pu_ 29 (some 43) #[T,T,T,T,T,T,T,T,T,T,T,T,T,T,T,T,T,T,T,T,T,T,T,T,T,T,T,T,T,T,F,F,F,F,F,F,F] HT_.out ?_
           refine pu_ 30 (some 44) #[T,T,T,T,T,T,T,T,T,T,T,T,T,T,T,T,T,T,T,T,T,T,T,T,T,T,T,T,T,T,T,F,F,F,F,F,F] HT_.out ?_
           refine pu_ 31 (some 45) #[T,T,T,T,T,T,T,T,T,T,T,T,T,T,T,T,T,T,T,T,T,T,T,T,T,T,T,T,T,T,T,T,F,F,F,F,F] HT_.out ?_
           refine pu_ 32 (some 46) #[T,T,T,T,T,T,T,T,T,T,T,T,T,T,T,T,T,T,T,T,T,T,T,T,T,T,T,T,T,T,T,T,T,F,F,F,F] HT_.out ?_
           refine pu_ 33 (some 47) #[T,T,T,T,T,T,T,T,T,T,T,T,T,T,T,T,T,T,T,T,T,T,T,T,T,T,T,T,T,T,T,T,T,T,F,F,F] HT_.out ?_
           refine pu_ 34 (some 48) #[T,T,T,T,T,T,T,T,T,T,T,T,T,T,T,T,T,T,T,T,T,T,T,T,T,T,T,T,T,T,T,T,T,T,T,F,F] HT_.out ?_
           refine pu_ 35 (some 49) #[T,T,T,T,T,T,T,T,T,T,T,T,T,T,T,T,T,T,T,T,T,T,T,T,T,T,T,T,T,T,T,T,T,T,T,T,F] HT_.out ?_
           refine pv_ 36 (some 50) #[T,T,T,T,T,T,T,T,T,T,T,T,T,T,T,T,T,T,T,T,T,T,T,T,T,T,T,T,T,T,T,T,T,T,T,T,T] HT_.out ?_
           refine done_ (done_of HT_.out (by kernel_rfl)) ?_
           try go_wp2
           go_meet
           case rel => exact ⟨_, (true), z2_, H', ⟨by have := HK1.out; first | omega | exact Nat.le_refl _⟩, ⟨z17_⟩, ⟨z16_⟩⟩
         ·replace c13 := Bool.eq_false_iff.mpr c13
          subst c13
          have H1 : (impl_ArePeople.j1 k1 l0 x9_1 l0 (l0.length : Int) x9_1 true ((rd_T41 l0 x9_1).f0) ((rd_T41 l0 x9_1).f1) ((rd_T41 l0 x9_1).f2) ((rd_T41 l0 x9_1).f3)) = some r := by rw [if_neg (show ¬ (false = true) by decide)] at H; exact H
          clear H; have H := H1; clear H1
          have H' := Aside0.mk H
          clear H
          try go_wp2
          have n0_ : Aside0 (((((w6.setCell ⟨gb209, 0, none⟩ (.int .i64 ((rd_T41 l0 x9_1).f0))).setCell ⟨gb209, 1, none⟩ (.string ((rd_T41 l0 x9_1).f1))).setCell ⟨gb209, 2, none⟩ (.int .i64 ((rd_T41 l0 x9_1).f2))).setCell ⟨gb209, 3, none⟩ (.int .i64 ((rd_T41 l0 x9_1).f3))).heap[gb209]? = some (.cells #[.int .i64 ((rd_T41 l0 x9_1).f0), .string ((rd_T41 l0 x9_1).f1), .int .i64 ((rd_T41 l0 x9_1).f2), .int .i64 ((rd_T41 l0 x9_1).f3)] 41 (0, 0))) := ⟨z24_⟩
          have n1_ : Aside0 (Below w.heap.size w ((((w6.setCell ⟨gb209, 0, none⟩ (.int .i64 ((rd_T41 l0 x9_1).f0))).setCell ⟨gb209, 1, none⟩ (.string ((rd_T41 l0 x9_1).f1))).setCell ⟨gb209, 2, none⟩ (.int .i64 ((rd_T41 l0 x9_1).f2))).setCell ⟨gb209, 3, none⟩ (.int .i64 ((rd_T41 l0 x9_1).f3)))) := ⟨z16_⟩
          (try clear BK209); (try clear HB)
          generalize ((((w6.setCell ⟨gb209, 0, none⟩ (.int .i64 ((rd_T41 l0 x9_1).f0))).setCell ⟨gb209, 1, none⟩ (.string ((rd_T41 l0 x9_1).f1))).setCell ⟨gb209, 2, none⟩ (.int .i64 ((rd_T41 l0 x9_1).f2))).setCell ⟨gb209, 3, none⟩ (.int .i64 ((rd_T41 l0 x9_1).f3))) = w29 at n0_ n1_ ⊢
          have BK209 := n0_; have HB := n1_; clear n0_ n1_
          have n0_ := Aside0.mk (blk_drew BK209.out)
          have n1_ := Aside0.mk (below_drew1 HB.out)
          clear BK209; clear HB; have BK209 := n0_; have HB := n1_; clear n0_ n1_
          refine start_ (n := 37) (S := fun w' => w'.cell? ⟨gb209, 0, none⟩ = some (.int .i64 ((rd_T41 l0 x9_1).f0)) ∧ w'.cell? ⟨gb209, 1, none⟩ = some (.string ((rd_T41 l0 x9_1).f1)) ∧ w'.cell? ⟨gb209, 2, none⟩ = some (.int .i64 ((rd_T41 l0 x9_1).f2)) ∧ w'.cell? ⟨gb209, 3, none⟩ = some (.int .i64 ((rd_T41 l0 x9_1).f3))) (ds := []) #[F,F,F,F,F,F,F,F,F,F,F,F,F,F,F,F,F,F,F,F,F,F,F,F,F,F,F,F,F,F,F,F,F,F,F,F,F] (by kernel_rfl) rfl rfl ⟨(blk_cell BK209.out 0).trans rfl, (blk_cell BK209.out 1).trans rfl, (blk_cell BK209.out 2).trans rfl, (blk_cell BK209.out 3).trans rfl⟩ (fun hHeld => ?_); refine with_tabW impl_ArePeople.tab4 impl_ArePeople.bits4 (fun HT_ HW_ => ?_)
          generalize w29.drew = w30 at BK209 HB hHeld ⊢
          refine pv_ 0 (some 14) #[T,F,F,F,F,F,F,F,F,F,F,F,F,F,F,F,F,F,F,F,F,F,F,F,F,F,F,F,F,F,F,F,F,F,F,F,F] HT_.out ?_
          refine tv4_ 1 (some 15) #[T,T,F,F,F,F,F,F,F,F,F,F,F,F,F,F,F,F,F,F,F,F,F,F,F,F,F,F,F,F,F,F,F,F,F,F,F] HT_.out HW_.out hHeld ?_
          refine one_ (i := 2) (N := some 16) #[T,T,T,F,F,F,F,F,F,F,F,F,F,F,F,F,F,F,F,F,F,F,F,F,F,F,F,F,F,F,F,F,F,F,F,F,F] rfl rfl (one_of HT_.out (by kernel_rfl)) (by decide) (fun K hK => ?_)
          refine goes_ Tryz.func55 (by kernel_rfl) rfl #[.int .i64 ((rd_T41 l0 x9_1).f0)] (by rfl) rfl rfl gl_ ?_
          with_reducible refine (impl_isId.calls ((rd_T41 l0 x9_1).f0) true _ A8.out).mono ?_
          rintro e w' ⟨rfl, ⟨nd, rfl⟩⟩
          refine ⟨_, rfl, ?_⟩
          refine hK.out _ _ ⟨(blk_cell BK209.out 0).trans rfl, (blk_cell BK209.out 1).trans rfl, (blk_cell BK209.out 2).trans rfl, (blk_cell BK209.out 3).trans rfl⟩ (fun hHeld => ?_)
          clear hK K
          refine nm_ (some 16) ?_
          refine pv_ 3 (some 17) #[T,T,T,T,F,F,F,F,F,F,F,F,F,F,F,F,F,F,F,F,F,F,F,F,F,F,F,F,F,F,F,F,F,F,F,F,F] HT_.out ?_
          refine pv_ 4 (some 18) #[T,T,T,T,T,F,F,F,F,F,F,F,F,F,F,F,F,F,F,F,F,F,F,F,F,F,F,F,F,F,F,F,F,F,F,F,F] HT_.out ?_
          refine pv_ 5 (some 19) #[T,T,T,T,T,T,F,F,F,F,F,F,F,F,F,F,F,F,F,F,F,F,F,F,F,F,F,F,F,F,F,F,F,F,F,F,F] HT_.out ?_
          refine tv4_ 6 (some 20) #[T,T,T,T,T,T,T,F,F,F,F,F,F,F,F,F,F,F,F,F,F,F,F,F,F,F,F,F,F,F,F,F,F,F,F,F,F] HT_.out HW_.out hHeld ?_
          refine one_ (i := 7) (N := some 21) #[T,T,T,T,T,T,T,T,F,F,F,F,F,F,F,F,F,F,F,F,F,F,F,F,F,F,F,F,F,F,F,F,F,F,F,F,F] rfl rfl (one_of HT_.out (by kernel_rfl)) (by decide) (fun K hK => ?_)
          refine goes_ Tryz.func56 (by kernel_rfl) rfl #[.string ((rd_T41 l0 x9_1).f1)] (by rfl) rfl rfl gl_ ?_
          with_reducible refine (impl_isWord.calls ((rd_T41 l0 x9_1).f1) true _ A10.out).mono ?_
          rintro e w31 ⟨rfl, hb⟩
          refine ⟨_, rfl, ?_⟩
          have n0_ := Aside0.mk (blk_below (bk_ BK209) hb)
          have n1_ := Aside0.mk (below_step bx_ hb)
          clear BK209; clear HB; have BK209 := n0_; have HB := n1_; clear n0_ n1_; (try clear hb)
          
          
          
          refine hK.out _ _ ⟨(blk_cell BK209.out 0).trans rfl, (blk_cell BK209.out 1).trans rfl, (blk_cell BK209.out 2).trans rfl, (blk_cell BK209.out 3).trans rfl⟩ (fun hHeld => ?_)
          clear hK K
          refine nm_ (some 21) ?_
          refine pv_ 8 (some 22) #[T,T,T,T,T,T,T,T,T,F,F,F,F,F,F,F,F,F,F,F,F,F,F,F,F,F,F,F,F,F,F,F,F,F,F,F,F] HT_.out ?_
          refine pv_ 9 (some 23) #[T,T,T,T,T,T,T,T,T,T,F,F,F,F,F,F,F,F,F,F,F,F,F,F,F,F,F,F,F,F,F,F,F,F,F,F,F] HT_.out ?_
          refine pv_ 10 (some 24) #[T,T,T,T,T,T,T,T,T,T,T,F,F,F,F,F,F,F,F,F,F,F,F,F,F,F,F,F,F,F,F,F,F,F,F,F,F] HT_.out ?_
          refine pv_ 11 (some 25) #[T,T,T,T,T,T,T,T,T,T,T,T,F,F,F,F,F,F,F,F,F,F,F,F,F,F,F,F,F,F,F,F,F,F,F,F,F] HT_.out ?_
          refine tv4_ 12 (some 26) #[T,T,T,T,T,T,T,T,T,T,T,T,T,F,F,F,F,F,F,F,F,F,F,F,F,F,F,F,F,F,F,F,F,F,F,F,F] HT_.out HW_.out hHeld ?_
          refine one_ (i := 13) (N := some 27) #[T,T,T,T,T,T,T,T,T,T,T,T,T,T,F,F,F,F,F,F,F,F,F,F,F,F,F,F,F,F,F,F,F,F,F,F,F] rfl rfl (one_of HT_.out (by kernel_rfl)) (by decide) (fun K hK => ?_)
          refine goes_ Tryz.func34 (by kernel_rfl) rfl #[.int .i64 ((rd_T41 l0 x9_1).f2)] (by rfl) rfl rfl gl_ ?_
          with_reducible refine (impl_areSkills.calls ((rd_T41 l0 x9_1).f2) false _ A12.out).mono ?_
          rintro e w' ⟨rfl, ⟨nd, rfl⟩⟩
          refine ⟨_, rfl, ?_⟩
          refine hK.out _ _ ⟨(blk_cell BK209.out 0).trans rfl, (blk_cell BK209.out 1).trans rfl, (blk_cell BK209.out 2).trans rfl, (blk_cell BK209.out 3).trans rfl⟩ (fun hHeld => ?_)
          clear hK K
          refine nm_ (some 27) ?_
          refine pv_ 14 (some 28) #[T,T,T,T,T,T,T,T,T,T,T,T,T,T,T,F,F,F,F,F,F,F,F,F,F,F,F,F,F,F,F,F,F,F,F,F,F] HT_.out ?_
          refine pv_ 15 (some 29) #[T,T,T,T,T,T,T,T,T,T,T,T,T,T,T,T,F,F,F,F,F,F,F,F,F,F,F,F,F,F,F,F,F,F,F,F,F] HT_.out ?_
          refine pv_ 16 (some 30) #[T,T,T,T,T,T,T,T,T,T,T,T,T,T,T,T,T,F,F,F,F,F,F,F,F,F,F,F,F,F,F,F,F,F,F,F,F] HT_.out ?_
          refine pu_ 17 (some 31) #[T,T,T,T,T,T,T,T,T,T,T,T,T,T,T,T,T,T,F,F,F,F,F,F,F,F,F,F,F,F,F,F,F,F,F,F,F] HT_.out ?_
          refine pu_ 18 (some 32) #[T,T,T,T,T,T,T,T,T,T,T,T,T,T,T,T,T,T,T,F,F,F,F,F,F,F,F,F,F,F,F,F,F,F,F,F,F] HT_.out ?_
          refine pu_ 19 (some 33) #[T,T,T,T,T,T,T,T,T,T,T,T,T,T,T,T,T,T,T,T,F,F,F,F,F,F,F,F,F,F,F,F,F,F,F,F,F] HT_.out ?_
          refine pu_ 20 (some 34) #[T,T,T,T,T,T,T,T,T,T,T,T,T,T,T,T,T,T,T,T,T,F,F,F,F,F,F,F,F,F,F,F,F,F,F,F,F] HT_.out ?_
          refine pv_ 21 (some 35) #[T,T,T,T,T,T,T,T,T,T,T,T,T,T,T,T,T,T,T,T,T,T,F,F,F,F,F,F,F,F,F,F,F,F,F,F,F] HT_.out ?_
          refine pv_ 22 (some 36) #[T,T,T,T,T,T,T,T,T,T,T,T,T,T,T,T,T,T,T,T,T,T,T,F,F,F,F,F,F,F,F,F,F,F,F,F,F] HT_.out ?_
          refine pu_ 23 (some 37) #[T,T,T,T,T,T,T,T,T,T,T,T,T,T,T,T,T,T,T,T,T,T,T,T,F,F,F,F,F,F,F,F,F,F,F,F,F] HT_.out ?_
          refine pu_ 24 (some 38) #[T,T,T,T,T,T,T,T,T,T,T,T,T,T,T,T,T,T,T,T,T,T,T,T,T,F,F,F,F,F,F,F,F,F,F,F,F] HT_.out ?_
          refine pu_ 25 (some 39) #[T,T,T,T,T,T,T,T,T,T,T,T,T,T,T,T,T,T,T,T,T,T,T,T,T,T,F,F,F,F,F,F,F,F,F,F,F] HT_.out ?_
          refine pu_ 26 (some 40) #[T,T,T,T,T,T,T,T,T,T,T,T,T,T,T,T,T,T,T,T,T,T,T,T,T,T,T,F,F,F,F,F,F,F,F,F,F] HT_.out ?_
          refine pu_ 27 (some 41) #[T,T,T,T,T,T,T,T,T,T,T,T,T,T,T,T,T,T,T,T,T,T,T,T,T,T,T,T,F,F,F,F,F,F,F,F,F] HT_.out ?_
          refine pu_ 28 (some 42) #[T,T,T,T,T,T,T,T,T,T,T,T,T,T,T,T,T,T,T,T,T,T,T,T,T,T,T,T,T,F,F,F,F,F,F,F,F] HT_.out ?_
          refine pu_ 29 (some 43) #[T,T,T,T,T,T,T,T,T,T,T,T,T,T,T,T,T,T,T,T,T,T,T,T,T,T,T,T,T,T,F,F,F,F,F,F,F] HT_.out ?_
          refine pu_ 30 (some 44) #[T,T,T,T,T,T,T,T,T,T,T,T,T,T,T,T,T,T,T,T,T,T,T,T,T,T,T,T,T,T,T,F,F,F,F,F,F] HT_.out ?_
          refine pu_ 31 (some 45) #[T,T,T,T,T,T,T,T,T,T,T,T,T,T,T,T,T,T,T,T,T,T,T,T,T,T,T,T,T,T,T,T,F,F,F,F,F] HT_.out ?_
          refine pu_ 32 (some 46) #[T,T,T,T,T,T,T,T,T,T,T,T,T,T,T,T,T,T,T,T,T,T,T,T,T,T,T,T,T,T,T,T,T,F,F,F,F] HT_.out ?_
          refine pu_ 33 (some 47) #[T,T,T,T,T,T,T,T,T,T,T,T,T,T,T,T,T,T,T,T,T,T,T,T,T,T,T,T,T,T,T,T,T,T,F,F,F] HT_.out ?_
          refine pu_ 34 (some 48) #[T,T,T,T,T,T,T,T,T,T,T,T,T,T,T,T,T,T,T,T,T,T,T,T,T,T,T,T,T,T,T,T,T,T,T,F,F] HT_.out ?_
          refine pu_ 35 (some 49) #[T,T,T,T,T,T,T,T,T,T,T,T,T,T,T,T,T,T,T,T,T,T,T,T,T,T,T,T,T,T,T,T,T,T,T,T,F] HT_.out ?_
          refine pv_ 36 (some 50) #[T,T,T,T,T,T,T,T,T,T,T,T,T,T,T,T,T,T,T,T,T,T,T,T,T,T,T,T,T,T,T,T,T,T,T,T,T] HT_.out ?_
          refine done_ (done_of HT_.out (by kernel_rfl)) ?_
          try go_wp2
          go_meet
          case rel => exact ⟨_, (true), z2_, H', ⟨by have := HK1.out; first | omega | exact Nat.le_refl _⟩, ⟨z17_⟩, ⟨z16_⟩⟩
        ·replace c11 := Bool.eq_false_iff.mpr c11
         subst c11
         have H1 : (impl_ArePeople.j1 k1 l0 x9_1 l0 (l0.length : Int) x9_1 true ((rd_T41 l0 x9_1).f0) ((rd_T41 l0 x9_1).f1) ((rd_T41 l0 x9_1).f2) ((rd_T41 l0 x9_1).f3)) = some r := by rw [if_neg (show ¬ (false = true) by decide)] at H; exact H
         clear H; have H := H1; clear H1
         have H' := Aside0.mk H
         clear H
         try go_wp2
         have n0_ : Aside0 (((((w6.setCell ⟨gb209, 0, none⟩ (.int .i64 ((rd_T41 l0 x9_1).f0))).setCell ⟨gb209, 1, none⟩ (.string ((rd_T41 l0 x9_1).f1))).setCell ⟨gb209, 2, none⟩ (.int .i64 ((rd_T41 l0 x9_1).f2))).setCell ⟨gb209, 3, none⟩ (.int .i64 ((rd_T41 l0 x9_1).f3))).heap[gb209]? = some (.cells #[.int .i64 ((rd_T41 l0 x9_1).f0), .string ((rd_T41 l0 x9_1).f1), .int .i64 ((rd_T41 l0 x9_1).f2), .int .i64 ((rd_T41 l0 x9_1).f3)] 41 (0, 0))) := ⟨z24_⟩
         have n1_ : Aside0 (Below w.heap.size w ((((w6.setCell ⟨gb209, 0, none⟩ (.int .i64 ((rd_T41 l0 x9_1).f0))).setCell ⟨gb209, 1, none⟩ (.string ((rd_T41 l0 x9_1).f1))).setCell ⟨gb209, 2, none⟩ (.int .i64 ((rd_T41 l0 x9_1).f2))).setCell ⟨gb209, 3, none⟩ (.int .i64 ((rd_T41 l0 x9_1).f3)))) := ⟨z16_⟩
         (try clear BK209); (try clear HB)
         generalize ((((w6.setCell ⟨gb209, 0, none⟩ (.int .i64 ((rd_T41 l0 x9_1).f0))).setCell ⟨gb209, 1, none⟩ (.string ((rd_T41 l0 x9_1).f1))).setCell ⟨gb209, 2, none⟩ (.int .i64 ((rd_T41 l0 x9_1).f2))).setCell ⟨gb209, 3, none⟩ (.int .i64 ((rd_T41 l0 x9_1).f3))) = w32 at n0_ n1_ ⊢
         have BK209 := n0_; have HB := n1_; clear n0_ n1_
         have n0_ := Aside0.mk (blk_drew BK209.out)
         have n1_ := Aside0.mk (below_drew1 HB.out)
         clear BK209; clear HB; have BK209 := n0_; have HB := n1_; clear n0_ n1_
         refine start_ (n := 37) (S := fun w' => w'.cell? ⟨gb209, 0, none⟩ = some (.int .i64 ((rd_T41 l0 x9_1).f0)) ∧ w'.cell? ⟨gb209, 1, none⟩ = some (.string ((rd_T41 l0 x9_1).f1)) ∧ w'.cell? ⟨gb209, 2, none⟩ = some (.int .i64 ((rd_T41 l0 x9_1).f2)) ∧ w'.cell? ⟨gb209, 3, none⟩ = some (.int .i64 ((rd_T41 l0 x9_1).f3))) (ds := []) #[F,F,F,F,F,F,F,F,F,F,F,F,F,F,F,F,F,F,F,F,F,F,F,F,F,F,F,F,F,F,F,F,F,F,F,F,F] (by kernel_rfl) rfl rfl ⟨(blk_cell BK209.out 0).trans rfl, (blk_cell BK209.out 1).trans rfl, (blk_cell BK209.out 2).trans rfl, (blk_cell BK209.out 3).trans rfl⟩ (fun hHeld => ?_); refine with_tabW impl_ArePeople.tab4 impl_ArePeople.bits4 (fun HT_ HW_ => ?_)
         generalize w32.drew = w33 at BK209 HB hHeld ⊢
         refine pv_ 0 (some 14) #[T,F,F,F,F,F,F,F,F,F,F,F,F,F,F,F,F,F,F,F,F,F,F,F,F,F,F,F,F,F,F,F,F,F,F,F,F] HT_.out ?_
         refine tv4_ 1 (some 15) #[T,T,F,F,F,F,F,F,F,F,F,F,F,F,F,F,F,F,F,F,F,F,F,F,F,F,F,F,F,F,F,F,F,F,F,F,F] HT_.out HW_.out hHeld ?_
         refine one_ (i := 2) (N := some 16) #[T,T,T,F,F,F,F,F,F,F,F,F,F,F,F,F,F,F,F,F,F,F,F,F,F,F,F,F,F,F,F,F,F,F,F,F,F] rfl rfl (one_of HT_.out (by kernel_rfl)) (by decide) (fun K hK => ?_)
         refine goes_ Tryz.func55 (by kernel_rfl) rfl #[.int .i64 ((rd_T41 l0 x9_1).f0)] (by rfl) rfl rfl gl_ ?_
         with_reducible refine (impl_isId.calls ((rd_T41 l0 x9_1).f0) true _ A8.out).mono ?_
         rintro e w' ⟨rfl, ⟨nd, rfl⟩⟩
         refine ⟨_, rfl, ?_⟩
         refine hK.out _ _ ⟨(blk_cell BK209.out 0).trans rfl, (blk_cell BK209.out 1).trans rfl, (blk_cell BK209.out 2).trans rfl, (blk_cell BK209.out 3).trans rfl⟩ (fun hHeld => ?_)
         clear hK K
         refine nm_ (some 16) ?_
         refine pv_ 3 (some 17) #[T,T,T,T,F,F,F,F,F,F,F,F,F,F,F,F,F,F,F,F,F,F,F,F,F,F,F,F,F,F,F,F,F,F,F,F,F] HT_.out ?_
         refine pv_ 4 (some 18) #[T,T,T,T,T,F,F,F,F,F,F,F,F,F,F,F,F,F,F,F,F,F,F,F,F,F,F,F,F,F,F,F,F,F,F,F,F] HT_.out ?_
         refine pv_ 5 (some 19) #[T,T,T,T,T,T,F,F,F,F,F,F,F,F,F,F,F,F,F,F,F,F,F,F,F,F,F,F,F,F,F,F,F,F,F,F,F] HT_.out ?_
         refine tv4_ 6 (some 20) #[T,T,T,T,T,T,T,F,F,F,F,F,F,F,F,F,F,F,F,F,F,F,F,F,F,F,F,F,F,F,F,F,F,F,F,F,F] HT_.out HW_.out hHeld ?_
         refine one_ (i := 7) (N := some 21) #[T,T,T,T,T,T,T,T,F,F,F,F,F,F,F,F,F,F,F,F,F,F,F,F,F,F,F,F,F,F,F,F,F,F,F,F,F] rfl rfl (one_of HT_.out (by kernel_rfl)) (by decide) (fun K hK => ?_)
         refine goes_ Tryz.func56 (by kernel_rfl) rfl #[.string ((rd_T41 l0 x9_1).f1)] (by rfl) rfl rfl gl_ ?_
         with_reducible refine (impl_isWord.calls ((rd_T41 l0 x9_1).f1) false _ A10.out).mono ?_
         rintro e w34 ⟨rfl, hb⟩
         refine ⟨_, rfl, ?_⟩
         have n0_ := Aside0.mk (blk_below (bk_ BK209) hb)
         have n1_ := Aside0.mk (below_step bx_ hb)
         clear BK209; clear HB; have BK209 := n0_; have HB := n1_; clear n0_ n1_; (try clear hb)
         
         
         
         refine hK.out _ _ ⟨(blk_cell BK209.out 0).trans rfl, (blk_cell BK209.out 1).trans rfl, (blk_cell BK209.out 2).trans rfl, (blk_cell BK209.out 3).trans rfl⟩ (fun hHeld => ?_)
         clear hK K
         refine nm_ (some 21) ?_
         refine pv_ 8 (some 22) #[T,T,T,T,T,T,T,T,T,F,F,F,F,F,F,F,F,F,F,F,F,F,F,F,F,F,F,F,F,F,F,F,F,F,F,F,F] HT_.out ?_
         refine pv_ 9 (some 23) #[T,T,T,T,T,T,T,T,T,T,F,F,F,F,F,F,F,F,F,F,F,F,F,F,F,F,F,F,F,F,F,F,F,F,F,F,F] HT_.out ?_
         refine pv_ 10 (some 24) #[T,T,T,T,T,T,T,T,T,T,T,F,F,F,F,F,F,F,F,F,F,F,F,F,F,F,F,F,F,F,F,F,F,F,F,F,F] HT_.out ?_
         refine pu_ 11 (some 25) #[T,T,T,T,T,T,T,T,T,T,T,T,F,F,F,F,F,F,F,F,F,F,F,F,F,F,F,F,F,F,F,F,F,F,F,F,F] HT_.out ?_
         refine pu_ 12 (some 26) #[T,T,T,T,T,T,T,T,T,T,T,T,T,F,F,F,F,F,F,F,F,F,F,F,F,F,F,F,F,F,F,F,F,F,F,F,F] HT_.out ?_
         refine pu_ 13 (some 27) #[T,T,T,T,T,T,T,T,T,T,T,T,T,T,F,F,F,F,F,F,F,F,F,F,F,F,F,F,F,F,F,F,F,F,F,F,F] HT_.out ?_
         refine pu_ 14 (some 28) #[T,T,T,T,T,T,T,T,T,T,T,T,T,T,T,F,F,F,F,F,F,F,F,F,F,F,F,F,F,F,F,F,F,F,F,F,F] HT_.out ?_
         refine pv_ 15 (some 29) #[T,T,T,T,T,T,T,T,T,T,T,T,T,T,T,T,F,F,F,F,F,F,F,F,F,F,F,F,F,F,F,F,F,F,F,F,F] HT_.out ?_
         refine pv_ 16 (some 30) #[T,T,T,T,T,T,T,T,T,T,T,T,T,T,T,T,T,F,F,F,F,F,F,F,F,F,F,F,F,F,F,F,F,F,F,F,F] HT_.out ?_
         refine pu_ 17 (some 31) #[T,T,T,T,T,T,T,T,T,T,T,T,T,T,T,T,T,T,F,F,F,F,F,F,F,F,F,F,F,F,F,F,F,F,F,F,F] HT_.out ?_
         refine pu_ 18 (some 32) #[T,T,T,T,T,T,T,T,T,T,T,T,T,T,T,T,T,T,T,F,F,F,F,F,F,F,F,F,F,F,F,F,F,F,F,F,F] HT_.out ?_
         refine pu_ 19 (some 33) #[T,T,T,T,T,T,T,T,T,T,T,T,T,T,T,T,T,T,T,T,F,F,F,F,F,F,F,F,F,F,F,F,F,F,F,F,F] HT_.out ?_
         refine pu_ 20 (some 34) #[T,T,T,T,T,T,T,T,T,T,T,T,T,T,T,T,T,T,T,T,T,F,F,F,F,F,F,F,F,F,F,F,F,F,F,F,F] HT_.out ?_
         refine pv_ 21 (some 35) #[T,T,T,T,T,T,T,T,T,T,T,T,T,T,T,T,T,T,T,T,T,T,F,F,F,F,F,F,F,F,F,F,F,F,F,F,F] HT_.out ?_
         refine pv_ 22 (some 36) #[T,T,T,T,T,T,T,T,T,T,T,T,T,T,T,T,T,T,T,T,T,T,T,F,F,F,F,F,F,F,F,F,F,F,F,F,F] HT_.out ?_
         refine pu_ 23 (some 37) #[T,T,T,T,T,T,T,T,T,T,T,T,T,T,T,T,T,T,T,T,T,T,T,T,F,F,F,F,F,F,F,F,F,F,F,F,F] HT_.out ?_
         refine pu_ 24 (some 38) #[T,T,T,T,T,T,T,T,T,T,T,T,T,T,T,T,T,T,T,T,T,T,T,T,T,F,F,F,F,F,F,F,F,F,F,F,F] HT_.out ?_
         refine pu_ 25 (some 39) #[T,T,T,T,T,T,T,T,T,T,T,T,T,T,T,T,T,T,T,T,T,T,T,T,T,T,F,F,F,F,F,F,F,F,F,F,F] HT_.out ?_
         refine pu_ 26 (some 40) #[T,T,T,T,T,T,T,T,T,T,T,T,T,T,T,T,T,T,T,T,T,T,T,T,T,T,T,F,F,F,F,F,F,F,F,F,F] HT_.out ?_
         refine pu_ 27 (some 41) #[T,T,T,T,T,T,T,T,T,T,T,T,T,T,T,T,T,T,T,T,T,T,T,T,T,T,T,T,F,F,F,F,F,F,F,F,F] HT_.out ?_
         refine pu_ 28 (some 42) #[T,T,T,T,T,T,T,T,T,T,T,T,T,T,T,T,T,T,T,T,T,T,T,T,T,T,T,T,T,F,F,F,F,F,F,F,F] HT_.out ?_
         refine pu_ 29 (some 43) #[T,T,T,T,T,T,T,T,T,T,T,T,T,T,T,T,T,T,T,T,T,T,T,T,T,T,T,T,T,T,F,F,F,F,F,F,F] HT_.out ?_
         refine pu_ 30 (some 44) #[T,T,T,T,T,T,T,T,T,T,T,T,T,T,T,T,T,T,T,T,T,T,T,T,T,T,T,T,T,T,T,F,F,F,F,F,F] HT_.out ?_
         refine pu_ 31 (some 45) #[T,T,T,T,T,T,T,T,T,T,T,T,T,T,T,T,T,T,T,T,T,T,T,T,T,T,T,T,T,T,T,T,F,F,F,F,F] HT_.out ?_
         refine pu_ 32 (some 46) #[T,T,T,T,T,T,T,T,T,T,T,T,T,T,T,T,T,T,T,T,T,T,T,T,T,T,T,T,T,T,T,T,T,F,F,F,F] HT_.out ?_
         refine pu_ 33 (some 47) #[T,T,T,T,T,T,T,T,T,T,T,T,T,T,T,T,T,T,T,T,T,T,T,T,T,T,T,T,T,T,T,T,T,T,F,F,F] HT_.out ?_
         refine pu_ 34 (some 48) #[T,T,T,T,T,T,T,T,T,T,T,T,T,T,T,T,T,T,T,T,T,T,T,T,T,T,T,T,T,T,T,T,T,T,T,F,F] HT_.out ?_
         refine pu_ 35 (some 49) #[T,T,T,T,T,T,T,T,T,T,T,T,T,T,T,T,T,T,T,T,T,T,T,T,T,T,T,T,T,T,T,T,T,T,T,T,F] HT_.out ?_
         refine pv_ 36 (some 50) #[T,T,T,T,T,T,T,T,T,T,T,T,T,T,T,T,T,T,T,T,T,T,T,T,T,T,T,T,T,T,T,T,T,T,T,T,T] HT_.out ?_
         refine done_ (done_of HT_.out (by kernel_rfl)) ?_
         try go_wp2
         go_meet
         case rel => exact ⟨_, (true), z2_, H', ⟨by have := HK1.out; first | omega | exact Nat.le_refl _⟩, ⟨z17_⟩, ⟨z16_⟩⟩
       ·replace c9 := Bool.eq_false_iff.mpr c9
        subst c9
        have H1 : (impl_ArePeople.j1 k1 l0 x9_1 l0 (l0.length : Int) x9_1 true ((rd_T41 l0 x9_1).f0) ((rd_T41 l0 x9_1).f1) ((rd_T41 l0 x9_1).f2) ((rd_T41 l0 x9_1).f3)) = some r := by rw [if_neg (show ¬ (false = true) by decide)] at H; exact H
        clear H; have H := H1; clear H1
        have H' := Aside0.mk H
        clear H
        try go_wp2
        have n0_ : Aside0 (((((w6.setCell ⟨gb209, 0, none⟩ (.int .i64 ((rd_T41 l0 x9_1).f0))).setCell ⟨gb209, 1, none⟩ (.string ((rd_T41 l0 x9_1).f1))).setCell ⟨gb209, 2, none⟩ (.int .i64 ((rd_T41 l0 x9_1).f2))).setCell ⟨gb209, 3, none⟩ (.int .i64 ((rd_T41 l0 x9_1).f3))).heap[gb209]? = some (.cells #[.int .i64 ((rd_T41 l0 x9_1).f0), .string ((rd_T41 l0 x9_1).f1), .int .i64 ((rd_T41 l0 x9_1).f2), .int .i64 ((rd_T41 l0 x9_1).f3)] 41 (0, 0))) := ⟨z24_⟩
        have n1_ : Aside0 (Below w.heap.size w ((((w6.setCell ⟨gb209, 0, none⟩ (.int .i64 ((rd_T41 l0 x9_1).f0))).setCell ⟨gb209, 1, none⟩ (.string ((rd_T41 l0 x9_1).f1))).setCell ⟨gb209, 2, none⟩ (.int .i64 ((rd_T41 l0 x9_1).f2))).setCell ⟨gb209, 3, none⟩ (.int .i64 ((rd_T41 l0 x9_1).f3)))) := ⟨z16_⟩
        (try clear BK209); (try clear HB)
        generalize ((((w6.setCell ⟨gb209, 0, none⟩ (.int .i64 ((rd_T41 l0 x9_1).f0))).setCell ⟨gb209, 1, none⟩ (.string ((rd_T41 l0 x9_1).f1))).setCell ⟨gb209, 2, none⟩ (.int .i64 ((rd_T41 l0 x9_1).f2))).setCell ⟨gb209, 3, none⟩ (.int .i64 ((rd_T41 l0 x9_1).f3))) = w35 at n0_ n1_ ⊢
        have BK209 := n0_; have HB := n1_; clear n0_ n1_
        have n0_ := Aside0.mk (blk_drew BK209.out)
        have n1_ := Aside0.mk (below_drew1 HB.out)
        clear BK209; clear HB; have BK209 := n0_; have HB := n1_; clear n0_ n1_
        refine start_ (n := 37) (S := fun w' => w'.cell? ⟨gb209, 0, none⟩ = some (.int .i64 ((rd_T41 l0 x9_1).f0)) ∧ w'.cell? ⟨gb209, 1, none⟩ = some (.string ((rd_T41 l0 x9_1).f1)) ∧ w'.cell? ⟨gb209, 2, none⟩ = some (.int .i64 ((rd_T41 l0 x9_1).f2)) ∧ w'.cell? ⟨gb209, 3, none⟩ = some (.int .i64 ((rd_T41 l0 x9_1).f3))) (ds := []) #[F,F,F,F,F,F,F,F,F,F,F,F,F,F,F,F,F,F,F,F,F,F,F,F,F,F,F,F,F,F,F,F,F,F,F,F,F] (by kernel_rfl) rfl rfl ⟨(blk_cell BK209.out 0).trans rfl, (blk_cell BK209.out 1).trans rfl, (blk_cell BK209.out 2).trans rfl, (blk_cell BK209.out 3).trans rfl⟩ (fun hHeld => ?_); refine with_tabW impl_ArePeople.tab4 impl_ArePeople.bits4 (fun HT_ HW_ => ?_)
        generalize w35.drew = w36 at BK209 HB hHeld ⊢
        refine pv_ 0 (some 14) #[T,F,F,F,F,F,F,F,F,F,F,F,F,F,F,F,F,F,F,F,F,F,F,F,F,F,F,F,F,F,F,F,F,F,F,F,F] HT_.out ?_
        refine tv4_ 1 (some 15) #[T,T,F,F,F,F,F,F,F,F,F,F,F,F,F,F,F,F,F,F,F,F,F,F,F,F,F,F,F,F,F,F,F,F,F,F,F] HT_.out HW_.out hHeld ?_
        refine one_ (i := 2) (N := some 16) #[T,T,T,F,F,F,F,F,F,F,F,F,F,F,F,F,F,F,F,F,F,F,F,F,F,F,F,F,F,F,F,F,F,F,F,F,F] rfl rfl (one_of HT_.out (by kernel_rfl)) (by decide) (fun K hK => ?_)
        refine goes_ Tryz.func55 (by kernel_rfl) rfl #[.int .i64 ((rd_T41 l0 x9_1).f0)] (by rfl) rfl rfl gl_ ?_
        with_reducible refine (impl_isId.calls ((rd_T41 l0 x9_1).f0) false _ A8.out).mono ?_
        rintro e w' ⟨rfl, ⟨nd, rfl⟩⟩
        refine ⟨_, rfl, ?_⟩
        refine hK.out _ _ ⟨(blk_cell BK209.out 0).trans rfl, (blk_cell BK209.out 1).trans rfl, (blk_cell BK209.out 2).trans rfl, (blk_cell BK209.out 3).trans rfl⟩ (fun hHeld => ?_)
        clear hK K
        refine nm_ (some 16) ?_
        refine pv_ 3 (some 17) #[T,T,T,T,F,F,F,F,F,F,F,F,F,F,F,F,F,F,F,F,F,F,F,F,F,F,F,F,F,F,F,F,F,F,F,F,F] HT_.out ?_
        refine pv_ 4 (some 18) #[T,T,T,T,T,F,F,F,F,F,F,F,F,F,F,F,F,F,F,F,F,F,F,F,F,F,F,F,F,F,F,F,F,F,F,F,F] HT_.out ?_
        refine pu_ 5 (some 19) #[T,T,T,T,T,T,F,F,F,F,F,F,F,F,F,F,F,F,F,F,F,F,F,F,F,F,F,F,F,F,F,F,F,F,F,F,F] HT_.out ?_
        refine pu_ 6 (some 20) #[T,T,T,T,T,T,T,F,F,F,F,F,F,F,F,F,F,F,F,F,F,F,F,F,F,F,F,F,F,F,F,F,F,F,F,F,F] HT_.out ?_
        refine pu_ 7 (some 21) #[T,T,T,T,T,T,T,T,F,F,F,F,F,F,F,F,F,F,F,F,F,F,F,F,F,F,F,F,F,F,F,F,F,F,F,F,F] HT_.out ?_
        refine pu_ 8 (some 22) #[T,T,T,T,T,T,T,T,T,F,F,F,F,F,F,F,F,F,F,F,F,F,F,F,F,F,F,F,F,F,F,F,F,F,F,F,F] HT_.out ?_
        refine pv_ 9 (some 23) #[T,T,T,T,T,T,T,T,T,T,F,F,F,F,F,F,F,F,F,F,F,F,F,F,F,F,F,F,F,F,F,F,F,F,F,F,F] HT_.out ?_
        refine pv_ 10 (some 24) #[T,T,T,T,T,T,T,T,T,T,T,F,F,F,F,F,F,F,F,F,F,F,F,F,F,F,F,F,F,F,F,F,F,F,F,F,F] HT_.out ?_
        refine pu_ 11 (some 25) #[T,T,T,T,T,T,T,T,T,T,T,T,F,F,F,F,F,F,F,F,F,F,F,F,F,F,F,F,F,F,F,F,F,F,F,F,F] HT_.out ?_
        refine pu_ 12 (some 26) #[T,T,T,T,T,T,T,T,T,T,T,T,T,F,F,F,F,F,F,F,F,F,F,F,F,F,F,F,F,F,F,F,F,F,F,F,F] HT_.out ?_
        refine pu_ 13 (some 27) #[T,T,T,T,T,T,T,T,T,T,T,T,T,T,F,F,F,F,F,F,F,F,F,F,F,F,F,F,F,F,F,F,F,F,F,F,F] HT_.out ?_
        refine pu_ 14 (some 28) #[T,T,T,T,T,T,T,T,T,T,T,T,T,T,T,F,F,F,F,F,F,F,F,F,F,F,F,F,F,F,F,F,F,F,F,F,F] HT_.out ?_
        refine pv_ 15 (some 29) #[T,T,T,T,T,T,T,T,T,T,T,T,T,T,T,T,F,F,F,F,F,F,F,F,F,F,F,F,F,F,F,F,F,F,F,F,F] HT_.out ?_
        refine pv_ 16 (some 30) #[T,T,T,T,T,T,T,T,T,T,T,T,T,T,T,T,T,F,F,F,F,F,F,F,F,F,F,F,F,F,F,F,F,F,F,F,F] HT_.out ?_
        refine pu_ 17 (some 31) #[T,T,T,T,T,T,T,T,T,T,T,T,T,T,T,T,T,T,F,F,F,F,F,F,F,F,F,F,F,F,F,F,F,F,F,F,F] HT_.out ?_
        refine pu_ 18 (some 32) #[T,T,T,T,T,T,T,T,T,T,T,T,T,T,T,T,T,T,T,F,F,F,F,F,F,F,F,F,F,F,F,F,F,F,F,F,F] HT_.out ?_
        refine pu_ 19 (some 33) #[T,T,T,T,T,T,T,T,T,T,T,T,T,T,T,T,T,T,T,T,F,F,F,F,F,F,F,F,F,F,F,F,F,F,F,F,F] HT_.out ?_
        refine pu_ 20 (some 34) #[T,T,T,T,T,T,T,T,T,T,T,T,T,T,T,T,T,T,T,T,T,F,F,F,F,F,F,F,F,F,F,F,F,F,F,F,F] HT_.out ?_
        refine pv_ 21 (some 35) #[T,T,T,T,T,T,T,T,T,T,T,T,T,T,T,T,T,T,T,T,T,T,F,F,F,F,F,F,F,F,F,F,F,F,F,F,F] HT_.out ?_
        refine pv_ 22 (some 36) #[T,T,T,T,T,T,T,T,T,T,T,T,T,T,T,T,T,T,T,T,T,T,T,F,F,F,F,F,F,F,F,F,F,F,F,F,F] HT_.out ?_
        refine pu_ 23 (some 37) #[T,T,T,T,T,T,T,T,T,T,T,T,T,T,T,T,T,T,T,T,T,T,T,T,F,F,F,F,F,F,F,F,F,F,F,F,F] HT_.out ?_
        refine pu_ 24 (some 38) #[T,T,T,T,T,T,T,T,T,T,T,T,T,T,T,T,T,T,T,T,T,T,T,T,T,F,F,F,F,F,F,F,F,F,F,F,F] HT_.out ?_
        refine pu_ 25 (some 39) #[T,T,T,T,T,T,T,T,T,T,T,T,T,T,T,T,T,T,T,T,T,T,T,T,T,T,F,F,F,F,F,F,F,F,F,F,F] HT_.out ?_
        refine pu_ 26 (some 40) #[T,T,T,T,T,T,T,T,T,T,T,T,T,T,T,T,T,T,T,T,T,T,T,T,T,T,T,F,F,F,F,F,F,F,F,F,F] HT_.out ?_
        refine pu_ 27 (some 41) #[T,T,T,T,T,T,T,T,T,T,T,T,T,T,T,T,T,T,T,T,T,T,T,T,T,T,T,T,F,F,F,F,F,F,F,F,F] HT_.out ?_
        refine pu_ 28 (some 42) #[T,T,T,T,T,T,T,T,T,T,T,T,T,T,T,T,T,T,T,T,T,T,T,T,T,T,T,T,T,F,F,F,F,F,F,F,F] HT_.out ?_
        refine pu_ 29 (some 43) #[T,T,T,T,T,T,T,T,T,T,T,T,T,T,T,T,T,T,T,T,T,T,T,T,T,T,T,T,T,T,F,F,F,F,F,F,F] HT_.out ?_
        refine pu_ 30 (some 44) #[T,T,T,T,T,T,T,T,T,T,T,T,T,T,T,T,T,T,T,T,T,T,T,T,T,T,T,T,T,T,T,F,F,F,F,F,F] HT_.out ?_
        refine pu_ 31 (some 45) #[T,T,T,T,T,T,T,T,T,T,T,T,T,T,T,T,T,T,T,T,T,T,T,T,T,T,T,T,T,T,T,T,F,F,F,F,F] HT_.out ?_
        refine pu_ 32 (some 46) #[T,T,T,T,T,T,T,T,T,T,T,T,T,T,T,T,T,T,T,T,T,T,T,T,T,T,T,T,T,T,T,T,T,F,F,F,F] HT_.out ?_
        refine pu_ 33 (some 47) #[T,T,T,T,T,T,T,T,T,T,T,T,T,T,T,T,T,T,T,T,T,T,T,T,T,T,T,T,T,T,T,T,T,T,F,F,F] HT_.out ?_
        refine pu_ 34 (some 48) #[T,T,T,T,T,T,T,T,T,T,T,T,T,T,T,T,T,T,T,T,T,T,T,T,T,T,T,T,T,T,T,T,T,T,T,F,F] HT_.out ?_
        refine pu_ 35 (some 49) #[T,T,T,T,T,T,T,T,T,T,T,T,T,T,T,T,T,T,T,T,T,T,T,T,T,T,T,T,T,T,T,T,T,T,T,T,F] HT_.out ?_
        refine pv_ 36 (some 50) #[T,T,T,T,T,T,T,T,T,T,T,T,T,T,T,T,T,T,T,T,T,T,T,T,T,T,T,T,T,T,T,T,T,T,T,T,T] HT_.out ?_
        refine done_ (done_of HT_.out (by kernel_rfl)) ?_
        try go_wp2
        go_meet
        case rel => exact ⟨_, (true), z2_, H', ⟨by have := HK1.out; first | omega | exact Nat.le_refl _⟩, ⟨z17_⟩, ⟨z16_⟩⟩
      case rest =>
       clear HC5; (try clear c9); (try clear c11); obtain ⟨kq, x50_4, rfl, HA, HJ4, BK209, HB⟩ := hcut
       cases kq with
       | zero => exact absurd HA.out (by simp [impl_ArePeople.j1])
       | succ kj4 =>
        have H := HA.out; clear HA
        simp only [impl_ArePeople.j1] at H
        by_cases c37 : x50_4 = true
        ·subst c37
         have H1 : (some false) = some r := by rw [if_pos rfl] at H; exact H
         clear H; have H := H1; clear H1
         obtain rfl := Option.some.inj H
         go_wp2
         go_ret
         exact ⟨z6_, z16_⟩
        ·replace c37 := Bool.eq_false_iff.mpr c37
         subst c37
         have H1 : (if 0 ≤ x9_1 then (if x9_1 ≤ (l0.length : Int) then ((some (l0.take (x9_1 : Int).toNat : List (S41))).bind fun y215 => (impl_ArePeople.l1 kj4 l0 l0 (l0.length : Int) x9_1 y215 (y215.length : Int) 0 ((rd_T41 l0 x9_1).f0) ((rd_T41 l0 x9_1).f1) ((rd_T41 l0 x9_1).f2) ((rd_T41 l0 x9_1).f3))) else (none)) else (none)) = some r := by rw [if_neg (show ¬ (false = true) by decide)] at H; exact H
         clear H; have H := H1; clear H1
         by_cases c38 : 0 ≤ x9_1
         ·rw [if_pos c38] at H
          have c38b0 := eq_true c38
          have c38b1 : decide (0 ≤ x9_1) = true := decide_eq_true c38
          clear c38
          by_cases c39 : x9_1 ≤ (l0.length : Int)
          ·rw [if_pos c39] at H
           have c39b0 := eq_true c39
           have c39b1 : decide (x9_1 ≤ (l0.length : Int)) = true := decide_eq_true c39
           clear c39
           obtain ⟨y215, hy215⟩ : ∃ y_ : List (S41), y_ = (l0.take (x9_1 : Int).toNat) := ⟨_, rfl⟩
           replace H : (impl_ArePeople.l1 kj4 l0 l0 (l0.length : Int) x9_1 y215 (y215.length : Int) 0 ((rd_T41 l0 x9_1).f0) ((rd_T41 l0 x9_1).f1) ((rd_T41 l0 x9_1).f2) ((rd_T41 l0 x9_1).f3)) = some r := by first | (rw [hy215]; with_reducible exact H) | (have H2_ := (Option.bind_some _ _).symm.trans H; rw [hy215]; with_reducible exact H2_) | (have H2_ := (Option.bind_some _ _).symm.trans H; with_reducible exact H2_) | with_reducible exact H | (rw [hy215]; exact H) | exact H
           have Ny215 := Aside0.mk hy215; clear hy215
           have H' := Aside0.mk H
           clear H
           have q40 : (x9_1 : Int) ≤ ((l0.length : Int) : Int) := od_
           obtain ⟨i040, hi040, _, hsz40, _⟩ := info_parts info41
           have hroom40 : l0.length ≤ c0 := HC0.out
           have hC40 : Kd.C k41 _ (some ad208) l0.length l0 := HR0.out
           have hcut40 := cut_to (P := Tryz.prog) 24 41 .i64 Tryz.underlying24 hi040 (some ad208) l0.length c0 x9_1 (od_) q40 hroom40
           have hr40 := Kd.C_take (m := (x9_1 : Int).toNat) hC40 (by omega)
           have hy40 : y215.length = (x9_1 : Int).toNat := (by rw [Ny215.out, List.length_take]; omega)
           rw [← Ny215.out] at hr40
           rw [← hy40] at hcut40
           have HR218 := Aside0.mk hr40
           have HC218 := Aside0.mk (show y215.length ≤ c0 from by omega)
           clear hr40 hC40 hroom40 hi040 hsz40; have KY40 := Aside0.mk hy40; clear hy40
           replace q40 := eq_true q40
           go_wp2
           go_loopg [55] kj4 (fun kq v55 w' => ∃ (x55_3 : Int), v55 = .int .i64 x55_3 ∧ Aside0 (impl_ArePeople.l1 kq l0 l0 (l0.length : Int) x9_1 y215 (y215.length : Int) x55_3 ((rd_T41 l0 x9_1).f0) ((rd_T41 l0 x9_1).f1) ((rd_T41 l0 x9_1).f2) ((rd_T41 l0 x9_1).f3) = some r) ∧ Aside0 (kq ≤ kj4) ∧ Aside0 (w'.heap[gb209]? = some (.cells #[.int .i64 ((rd_T41 l0 x9_1).f0), .string ((rd_T41 l0 x9_1).f1), .int .i64 ((rd_T41 l0 x9_1).f2), .int .i64 ((rd_T41 l0 x9_1).f3)] 41 (0, 0))) ∧ Aside0 (Below w.heap.size w w'))
           case atStart => exact ⟨(0), z2_, H', ⟨Nat.le_refl _⟩, ⟨z17_⟩, ⟨z16_⟩⟩
           case round =>
            clear H'
            (try clear c3); (try clear c9); (try clear c11); (try clear c37); (try clear c38); (try clear c38b0); (try clear c38b1); (try clear c39); (try clear c39b0); (try clear c39b1); (try clear q40); (try clear q40); obtain ⟨x55_3, rfl, HA, HK3, BK209, HB⟩ := hrel
            cases gk with
            | zero => exact absurd HA.out (by simp [impl_ArePeople.l1])
            | succ k3 =>
             have H := HA.out; clear HA
             simp only [impl_ArePeople.l1] at H
             by_cases c41 : x55_3 < (y215.length : Int)
             ·rw [if_pos c41] at H
              have c41b0 : decide (x55_3 < (y215.length : Int)) = true := decide_eq_true c41
              clear c41
              by_cases c42 : 0 ≤ x55_3
              ·rw [if_pos c42] at H
               have c42b0 : decide (0 ≤ x55_3) = true := decide_eq_true c42
               clear c42
               by_cases c43 : x55_3 < (y215.length : Int)
               ·rw [if_pos c43] at H
                have c43b0 : decide (x55_3 < (y215.length : Int)) = true := decide_eq_true c43
                clear c43
                by_cases c44 : ((rd_T41 y215 x55_3).f1).toList = ((rd_T41 l0 x9_1).f1).toList
                ·rw [if_pos c44] at H
                 have c44b0 : (((rd_T41 y215 x55_3).f1).toList == ((rd_T41 l0 x9_1).f1).toList) = true := beq_iff_eq.mpr c44
                 have c44b1 : (((rd_T41 y215 x55_3).f1).toList != ((rd_T41 l0 x9_1).f1).toList) = false := bne_eq_false_iff_eq.mpr c44
                 clear c44
                 obtain rfl := Option.some.inj H
                 have p219 : 0 ≤ (x55_3 : Int) := od_
                 have q219 : x55_3 < (y215.length : Int) := od_
                 obtain ⟨ad219, e219, hx219_0, hx219_1, hx219_2, hx219_3⟩ := at_T41 HR218.out x55_3 p219 q219
                 obtain rfl : ad208 = ad219 := (by injection e219)
                 replace hx219_0 := (HB.out.cell (World.block_lt_of_cell? w _ hx219_0)).trans hx219_0
                 replace hx219_1 := (HB.out.cell (World.block_lt_of_cell? w _ hx219_1)).trans hx219_1
                 replace hx219_2 := (HB.out.cell (World.block_lt_of_cell? w _ hx219_2)).trans hx219_2
                 replace hx219_3 := (HB.out.cell (World.block_lt_of_cell? w _ hx219_3)).trans hx219_3
                 replace p219 := eq_true p219
                 replace q219 := eq_true q219
                 go_wp2_with (first | ((with_reducible refine gate_dst (N := 6) rfl ?_); refine box_event ?hg (N := 6) ?hd (cs := #[.int .i64 0, .string (⟨#[]⟩ : ByteArray), .int .i64 0, .int .i64 0]) (t := 41) ?hr ?_; (case hd => rfl); (case hg => rfl); (case hr => first | (go_simp; done) | (go_simp; rfl)); intro gb220 hg w45 hbox hb; have n0_ := Aside0.mk (blk_below (bk_ BK209) hb); have n1_ := Aside0.mk (below_step bx_ hb); have n2_ := Aside0.mk (hbox); have n3_ := Aside0.mk ((by rw [hg]; exact (below_size bx_) : w.heap.size ≤ gb220)); have n4_ := Aside0.mk ((by rw [hg]; exact (below_size bx_) : w.heap.size ≤ gb220)); have n5_ := Aside0.mk ((by rw [hg]; exact Nat.ne_of_lt (blk_lt (g := gb209) (o := .cells #[.int .i64 ((rd_T41 l0 x9_1).f0), .string ((rd_T41 l0 x9_1).f1), .int .i64 ((rd_T41 l0 x9_1).f2), .int .i64 ((rd_T41 l0 x9_1).f3)] 41 (0, 0)) z17_) : gb209 ≠ gb220)); have n6_ := Aside0.mk ((by rw [hg]; exact Nat.ne_of_gt (blk_lt (g := gb209) (o := .cells #[.int .i64 ((rd_T41 l0 x9_1).f0), .string ((rd_T41 l0 x9_1).f1), .int .i64 ((rd_T41 l0 x9_1).f2), .int .i64 ((rd_T41 l0 x9_1).f3)] 41 (0, 0)) z17_) : gb220 ≠ gb209)); clear BK209; clear HB; have BK209 := n0_; have HB := n1_; have BK220 := n2_; have GW220 := n3_; have GE220 := n4_; have NB209_220 := n5_; have NB220_209 := n6_; clear n0_ n1_ n2_ n3_ n4_ n5_ n6_; clear hb hbox hg; have hnb46 := NB220_209.out; have hnc46 := NB209_220.out; have z47_0 : w45.cell? ⟨gb220, 0, none⟩ = some (.int .i64 0) := (blk_cell BK220.out 0).trans rfl; have z47_1 : w45.cell? ⟨gb220, 1, none⟩ = some (.string (⟨#[]⟩ : ByteArray)) := (blk_cell BK220.out 1).trans rfl; have z47_2 : w45.cell? ⟨gb220, 2, none⟩ = some (.int .i64 0) := (blk_cell BK220.out 2).trans rfl; have z47_3 : w45.cell? ⟨gb220, 3, none⟩ = some (.int .i64 0) := (blk_cell BK220.out 3).trans rfl; have y47_0 := blk_frozen BK220.out 0; have y47_1 := blk_frozen BK220.out 1; have y47_2 := blk_frozen BK220.out 2; have y47_3 := blk_frozen BK220.out 3; have z48_0 : w45.cell? ⟨gb209, 0, none⟩ = some (.int .i64 ((rd_T41 l0 x9_1).f0)) := (blk_cell BK209.out 0).trans rfl; have z48_1 : w45.cell? ⟨gb209, 1, none⟩ = some (.string ((rd_T41 l0 x9_1).f1)) := (blk_cell BK209.out 1).trans rfl; have z48_2 : w45.cell? ⟨gb209, 2, none⟩ = some (.int .i64 ((rd_T41 l0 x9_1).f2)) := (blk_cell BK209.out 2).trans rfl; have z48_3 : w45.cell? ⟨gb209, 3, none⟩ = some (.int .i64 ((rd_T41 l0 x9_1).f3)) := (blk_cell BK209.out 3).trans rfl; have y48_0 := blk_frozen BK209.out 0; have y48_1 := blk_frozen BK209.out 1; have y48_2 := blk_frozen BK209.out 2; have y48_3 := blk_frozen BK209.out 3))
                 go_ret
                 exact ⟨z6_, z48_⟩
                ·rw [if_neg c44] at H
                 have c44b0 : (((rd_T41 y215 x55_3).f1).toList == ((rd_T41 l0 x9_1).f1).toList) = false := beq_eq_false_iff_ne.mpr c44
                 have c44b1 : (((rd_T41 y215 x55_3).f1).toList != ((rd_T41 l0 x9_1).f1).toList) = true := bne_iff_ne.mpr c44
                 have H' := Aside0.mk H
                 clear H
                 have p219 : 0 ≤ (x55_3 : Int) := od_
                 have q219 : x55_3 < (y215.length : Int) := od_
                 obtain ⟨ad219, e219, hx219_0, hx219_1, hx219_2, hx219_3⟩ := at_T41 HR218.out x55_3 p219 q219
                 obtain rfl : ad208 = ad219 := (by injection e219)
                 replace hx219_0 := (HB.out.cell (World.block_lt_of_cell? w _ hx219_0)).trans hx219_0
                 replace hx219_1 := (HB.out.cell (World.block_lt_of_cell? w _ hx219_1)).trans hx219_1
                 replace hx219_2 := (HB.out.cell (World.block_lt_of_cell? w _ hx219_2)).trans hx219_2
                 replace hx219_3 := (HB.out.cell (World.block_lt_of_cell? w _ hx219_3)).trans hx219_3
                 replace p219 := eq_true p219
                 replace q219 := eq_true q219
                 go_wp2_with (first | ((with_reducible refine gate_dst (N := 6) rfl ?_); refine box_event ?hg (N := 6) ?hd (cs := #[.int .i64 0, .string (⟨#[]⟩ : ByteArray), .int .i64 0, .int .i64 0]) (t := 41) ?hr ?_; (case hd => rfl); (case hg => rfl); (case hr => first | (go_simp; done) | (go_simp; rfl)); intro gb220 hg w49 hbox hb; have n0_ := Aside0.mk (blk_below (bk_ BK209) hb); have n1_ := Aside0.mk (below_step bx_ hb); have n2_ := Aside0.mk (hbox); have n3_ := Aside0.mk ((by rw [hg]; exact (below_size bx_) : w.heap.size ≤ gb220)); have n4_ := Aside0.mk ((by rw [hg]; exact (below_size bx_) : w.heap.size ≤ gb220)); have n5_ := Aside0.mk ((by rw [hg]; exact Nat.ne_of_lt (blk_lt (g := gb209) (o := .cells #[.int .i64 ((rd_T41 l0 x9_1).f0), .string ((rd_T41 l0 x9_1).f1), .int .i64 ((rd_T41 l0 x9_1).f2), .int .i64 ((rd_T41 l0 x9_1).f3)] 41 (0, 0)) z17_) : gb209 ≠ gb220)); have n6_ := Aside0.mk ((by rw [hg]; exact Nat.ne_of_gt (blk_lt (g := gb209) (o := .cells #[.int .i64 ((rd_T41 l0 x9_1).f0), .string ((rd_T41 l0 x9_1).f1), .int .i64 ((rd_T41 l0 x9_1).f2), .int .i64 ((rd_T41 l0 x9_1).f3)] 41 (0, 0)) z17_) : gb220 ≠ gb209)); clear BK209; clear HB; have BK209 := n0_; have HB := n1_; have BK220 := n2_; have GW220 := n3_; have GE220 := n4_; have NB209_220 := n5_; have NB220_209 := n6_; clear n0_ n1_ n2_ n3_ n4_ n5_ n6_; clear hb hbox hg; have hnb50 := NB220_209.out; have hnc50 := NB209_220.out; have z51_0 : w49.cell? ⟨gb220, 0, none⟩ = some (.int .i64 0) := (blk_cell BK220.out 0).trans rfl; have z51_1 : w49.cell? ⟨gb220, 1, none⟩ = some (.string (⟨#[]⟩ : ByteArray)) := (blk_cell BK220.out 1).trans rfl; have z51_2 : w49.cell? ⟨gb220, 2, none⟩ = some (.int .i64 0) := (blk_cell BK220.out 2).trans rfl; have z51_3 : w49.cell? ⟨gb220, 3, none⟩ = some (.int .i64 0) := (blk_cell BK220.out 3).trans rfl; have y51_0 := blk_frozen BK220.out 0; have y51_1 := blk_frozen BK220.out 1; have y51_2 := blk_frozen BK220.out 2; have y51_3 := blk_frozen BK220.out 3; have z52_0 : w49.cell? ⟨gb209, 0, none⟩ = some (.int .i64 ((rd_T41 l0 x9_1).f0)) := (blk_cell BK209.out 0).trans rfl; have z52_1 : w49.cell? ⟨gb209, 1, none⟩ = some (.string ((rd_T41 l0 x9_1).f1)) := (blk_cell BK209.out 1).trans rfl; have z52_2 : w49.cell? ⟨gb209, 2, none⟩ = some (.int .i64 ((rd_T41 l0 x9_1).f2)) := (blk_cell BK209.out 2).trans rfl; have z52_3 : w49.cell? ⟨gb209, 3, none⟩ = some (.int .i64 ((rd_T41 l0 x9_1).f3)) := (blk_cell BK209.out 3).trans rfl; have y52_0 := blk_frozen BK209.out 0; have y52_1 := blk_frozen BK209.out 1; have y52_2 := blk_frozen BK209.out 2; have y52_3 := blk_frozen BK209.out 3))
                 go_roundg k3
                 case measure => have := HK1.out; have := HJ4.out; have := HK3.out; omega
                 case rel => exact ⟨(wrap64 (x55_3 + 1)), z2_, H', ⟨by have := HK1.out; have := HJ4.out; have := HK3.out; omega⟩, ⟨by (with_reducible repeat (first | refine blk_drewN ?_ _ | refine blk_drew ?_ | refine blk_alloc ?_ _)); refine blk_far ?_ NB209_220.out _; (with_reducible repeat (first | refine blk_drewN ?_ _ | refine blk_drew ?_ | refine blk_alloc ?_ _)); refine blk_far ?_ NB209_220.out _; (with_reducible repeat (first | refine blk_drewN ?_ _ | refine blk_drew ?_ | refine blk_alloc ?_ _)); refine blk_far ?_ NB209_220.out _; (with_reducible repeat (first | refine blk_drewN ?_ _ | refine blk_drew ?_ | refine blk_alloc ?_ _)); refine blk_far ?_ NB209_220.out _; (with_reducible repeat (first | refine blk_drewN ?_ _ | refine blk_drew ?_ | refine blk_alloc ?_ _)); exact BK209.out⟩, ⟨z48_⟩⟩
               ·rw [if_neg c43] at H
                exact absurd H (by simp)
              ·rw [if_neg c42] at H
               exact absurd H (by simp)
             ·rw [if_neg c41] at H
              have c41b0 : decide (x55_3 < (y215.length : Int)) = false := decide_eq_false c41
              clear c41
              have H' := Aside0.mk H
              clear H
              go_wp2
              go_roundg k3
              case measure => have := HK1.out; have := HJ4.out; have := HK3.out; omega
              case rel => exact ⟨(wrap64 (x9_1 + 1)), z2_, H', ⟨by have := HK1.out; have := HJ4.out; have := HK3.out; omega⟩, ⟨z16_⟩⟩
          ·rw [if_neg c39] at H
           exact absurd H (by simp)
         ·rw [if_neg c38] at H
          exact absurd H (by simp)
     ·rw [if_neg c4] at H
      exact absurd H (by simp)
    ·rw [if_neg c3] at H
     exact absurd H (by simp)
   ·rw [if_neg c2] at H
    have c2b0 : decide (x9_1 < (l0.length : Int)) = false := decide_eq_false c2
    clear c2
    obtain rfl := Option.some.inj H
    go_wp2
    go_ret
    exact ⟨z6_, z5_⟩

end Go.Proofs.YtafdklajmklmkaaGreatDoor.XFnTeams
