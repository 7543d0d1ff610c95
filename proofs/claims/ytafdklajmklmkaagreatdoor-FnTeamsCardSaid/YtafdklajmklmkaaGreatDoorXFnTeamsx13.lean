/- Contracts of the functions that the law FnTeams comes to: each is told as a plain function of its arguments, and the machine's call does what that function says; no condition. Written by programs (print.py, xprint.py); Lean checks it. -/
import Derived.Test.YtafdklajmklmkaaGreatDoorXFnTeamsx0
import Derived.Test.YtafdklajmklmkaaGreatDoorXFnTeamsx5
import Derived.Test.YtafdklajmklmkaaGreatDoorXFnTeamsx8
import Derived.Test.YtafdklajmklmkaaGreatDoorXFnTeamsx9
import Derived.Test.YtafdklajmklmkaaGreatDoorXFnTeamsx10
import Derived.Test.YtafdklajmklmkaaGreatDoorXFnTeamsx12
namespace Go.Proofs.YtafdklajmklmkaaGreatDoor.XFnTeams
open Go.RowKit Go.Proofs.YtafdklajmklmkaaGreatDoorW.PrintWords Go.Proofs.YtafdklajmklmkaaGreatDoorW.PrintLast Go.Proofs.YtafdklajmklmkaaGreatDoorW.PrintMore
attribute [local go_sem] max2_int min2_int max_two min_two max_three min_three max_four min_four   -- for this text's walks alone
set_option linter.unusedVariables false
set_option linter.unusedSimpArgs false

/-! ### slices_Index_int_int: function 87 -/
def slices_Index_int_int.l0 : Nat → List Int → Int → Int → Int → Option (Int)
 | 0, _, _, _, _ => none
 | k + 1, x0, x1, x7, x8 => if x8 < x7 then (if 0 ≤ x8 then (if x8 < (x0.length : Int) then (if x1 = (rd x0 x8) then (some x8) else (slices_Index_int_int.l0 k x0 x1 x7 (wrap64 (x8 + 1)))) else (none)) else (none)) else (some (-1))
def slices_Index_int_int.f (k : Nat) (l0 : List Int) (a1 : Int) : Option (Int) := slices_Index_int_int.l0 k l0 a1 (l0.length : Int) 0
set_option maxHeartbeats 8000000 in
set_option maxRecDepth 100000 in
theorem slices_Index_int_int.calls (k : Nat) (A0 : Option Addr) (c0 : Nat) (l0 : List Int) (a1 : Int) (r : Int) (w : World) (hr0 : Kd.C (Kd.int .i64) w A0 l0.length l0) (hc0 : l0.length ≤ c0) (h : slices_Index_int_int.f k l0 a1 = some r) :
  Calls Tryz.prog 87 #[.slice A0 l0.length c0, .int .i64 a1] w fun e w' => e = .returned (.int .i64 r) ∧ Drawn0 w w' := by
 have HR0 := Aside0.mk hr0; have HC0 := Aside0.mk hc0; clear hr0 hc0
 have H : (slices_Index_int_int.l0 k l0 a1 (l0.length : Int) 0) = some r := h
 clear h
 have H' := Aside0.mk H
 clear H
 go_enter Tryz.func87, Tryz.ntmps87
 go_wp2
 go_loopg [8] k (fun kq v8 w' => ∃ (x8_1 : Int), v8 = .int .i64 x8_1 ∧ Aside0 (slices_Index_int_int.l0 kq l0 a1 (l0.length : Int) x8_1 = some r) ∧ Aside0 (kq ≤ k) ∧ Drawn0 w w')
 case atStart => exact ⟨(0), z2_, H', ⟨Nat.le_refl _⟩, z7_⟩
 case round =>
  clear H'
  obtain ⟨x8_1, rfl, HA, HK1, ⟨m1, rfl⟩⟩ := hrel
  cases gk with
  | zero => exact absurd HA.out (by simp [slices_Index_int_int.l0])
  | succ k1 =>
   have H := HA.out; clear HA
   simp only [slices_Index_int_int.l0] at H
   by_cases c3 : x8_1 < (l0.length : Int)
   ·rw [if_pos c3] at H
    have c3b0 : decide (x8_1 < (l0.length : Int)) = true := decide_eq_true c3
    clear c3
    by_cases c4 : 0 ≤ x8_1
    ·rw [if_pos c4] at H
     have c4b0 : decide (0 ≤ x8_1) = true := decide_eq_true c4
     clear c4
     by_cases c5 : x8_1 < (l0.length : Int)
     ·rw [if_pos c5] at H
      have c5b0 : decide (x8_1 < (l0.length : Int)) = true := decide_eq_true c5
      clear c5
      by_cases c6 : a1 = (rd l0 x8_1)
      ·rw [if_pos c6] at H
       have c6b0 : (a1 == (rd l0 x8_1)) = true := beq_iff_eq.mpr c6
       have c6b1 : (a1 != (rd l0 x8_1)) = false := bne_eq_false_iff_eq.mpr c6
       clear c6
       obtain rfl := Option.some.inj H
       have p358 : 0 ≤ (x8_1 : Int) := od_
       have q358 : x8_1 < (l0.length : Int) := od_
       obtain ⟨ad358, e358, hx358_0⟩ := Kd.at_int HR0.out x8_1 p358 q358
       cases e358
       replace p358 := eq_true p358
       replace q358 := eq_true q358
       go_wp2
       go_ret
       exact ⟨z2_, z7_⟩
      ·rw [if_neg c6] at H
       have c6b0 : (a1 == (rd l0 x8_1)) = false := beq_eq_false_iff_ne.mpr c6
       have c6b1 : (a1 != (rd l0 x8_1)) = true := bne_iff_ne.mpr c6
       have H' := Aside0.mk H
       clear H
       have p358 : 0 ≤ (x8_1 : Int) := od_
       have q358 : x8_1 < (l0.length : Int) := od_
       obtain ⟨ad358, e358, hx358_0⟩ := Kd.at_int HR0.out x8_1 p358 q358
       cases e358
       replace p358 := eq_true p358
       replace q358 := eq_true q358
       go_wp2
       go_roundg k1
       case measure => have := HK1.out; omega
       case rel => exact ⟨(wrap64 (x8_1 + 1)), z2_, H', ⟨by have := HK1.out; omega⟩, z7_⟩
     ·rw [if_neg c5] at H
      exact absurd H (by simp)
    ·rw [if_neg c4] at H
     exact absurd H (by simp)
   ·rw [if_neg c3] at H
    have c3b0 : decide (x8_1 < (l0.length : Int)) = false := decide_eq_false c3
    clear c3
    obtain rfl := Option.some.inj H
    go_wp2
    go_ret
    exact ⟨z2_, z7_⟩

/-! ### slices_Contains_int_int: function 71 -/
def slices_Contains_int_int.f (k : Nat) (l0 : List Int) (a1 : Int) : Option (Bool) := (slices_Index_int_int.f k l0 a1).bind fun t359 => (some (decide (t359 ≥ 0)))
set_option maxHeartbeats 8000000 in
set_option maxRecDepth 100000 in
theorem slices_Contains_int_int.calls (k : Nat) (A0 : Option Addr) (c0 : Nat) (l0 : List Int) (a1 : Int) (r : Bool) (w : World) (hr0 : Kd.C (Kd.int .i64) w A0 l0.length l0) (hc0 : l0.length ≤ c0) (h : slices_Contains_int_int.f k l0 a1 = some r) :
  Calls Tryz.prog 71 #[.slice A0 l0.length c0, .int .i64 a1] w fun e w' => e = .returned (.bool r) ∧ Drawn0 w w' := by
 have HR0 := Aside0.mk hr0; have HC0 := Aside0.mk hc0; clear hr0 hc0
 have H : ((slices_Index_int_int.f k l0 a1).bind fun t359 => (some (decide (t359 ≥ 0)))) = some r := h
 clear h; replace H := Option.bind_eq_some_iff.mp H; obtain ⟨t359, A30, H⟩ := H
 replace H : (some (decide (t359 ≥ 0))) = some r := H
 have A3 := Aside0.mk A30; clear A30
 obtain rfl := Option.some.inj H
 go_enter Tryz.func71, Tryz.ntmps71
 go_wp2_with (first | ((with_reducible refine gate_callee (f := 87) rfl ?_); refine goesL_ (some 7) rfl rfl Tryz.func87 (by kernel_rfl) rfl #[.slice A0 l0.length c0, .int .i64 a1] rfl gl_ ?_; (with_reducible refine (slices_Index_int_int.calls k _ _ l0 a1 t359 _ ?side1 ?side2 A3.out).mono ?_); (case side1 => exact z11_); (case side2 => exact HC0.out); rintro e w' ⟨rfl, ⟨nd, rfl⟩⟩; refine ⟨_, rfl, ?_⟩))
 go_ret
 exact ⟨z2_, z7_⟩

/-! ### impl_has: function 49 -/
def impl_has.f (k : Nat) (l0 : List Int) (a1 : Int) : Option (Bool) := (slices_Contains_int_int.f k l0 a1).bind fun t360 => (some t360)
set_option maxHeartbeats 8000000 in
set_option maxRecDepth 100000 in
theorem impl_has.calls (k : Nat) (A0 : Option Addr) (c0 : Nat) (l0 : List Int) (a1 : Int) (r : Bool) (w : World) (hr0 : Kd.C (Kd.int .i64) w A0 l0.length l0) (hc0 : l0.length ≤ c0) (h : impl_has.f k l0 a1 = some r) :
  Calls Tryz.prog 49 #[.slice A0 l0.length c0, .int .i64 a1] w fun e w' => e = .returned (.bool r) ∧ Drawn0 w w' := by
 have HR0 := Aside0.mk hr0; have HC0 := Aside0.mk hc0; clear hr0 hc0
 have H : ((slices_Contains_int_int.f k l0 a1).bind fun t360 => (some t360)) = some r := h
 clear h; replace H := Option.bind_eq_some_iff.mp H; obtain ⟨t360, A30, H⟩ := H
 replace H : (some t360) = some r := H
 have A3 := Aside0.mk A30; clear A30
 obtain rfl := Option.some.inj H
 go_enter Tryz.func49, Tryz.ntmps49
 go_wp2_with (first | ((with_reducible refine gate_callee (f := 71) rfl ?_); refine goesL_ (some 7) rfl rfl Tryz.func71 (by kernel_rfl) rfl #[.slice A0 l0.length c0, .int .i64 a1] rfl gl_ ?_; (with_reducible refine (slices_Contains_int_int.calls k _ _ l0 a1 t360 _ ?side1 ?side2 A3.out).mono ?_); (case side1 => exact z11_); (case side2 => exact HC0.out); rintro e w' ⟨rfl, ⟨nd, rfl⟩⟩; refine ⟨_, rfl, ?_⟩))
 go_ret
 exact ⟨z2_, z7_⟩

/-! ### impl_GoOnTrip: function 13 -/
def impl_GoOnTrip.l0 : Nat → List Int → List (S41) → Int → Int → Option ((List (S41)) × Bool)
 | 0, _, _, _, _ => none
 | k + 1, x1, x8, x21, x22 => if x22 < x21 then (if 0 ≤ x22 then (if x22 < (x8.length : Int) then ((impl_has.f k x1 ((rd_T41 x8 x22).f0)).bind fun t369 => (if t369 = true then (impl_GoOnTrip.l0 k x1 (x8.set (x22 : Int).toNat (⟨(rd_T41 x8 x22).f0, (rd_T41 x8 x22).f1, (rd_T41 x8 x22).f2, wrap64 (((rd_T41 x8 x22).f3) + 1)⟩ : S41)) x21 (wrap64 (x22 + 1))) else (impl_GoOnTrip.l0 k x1 x8 x21 (wrap64 (x22 + 1))))) else (none)) else (none)) else ((impl_ArePeople.f k x8).bind fun t372 => (if t372 = true then (some (x8, true)) else (some (([] : List (S41)), false))))
def impl_GoOnTrip.f (k : Nat) (l0 : List (S41)) (l1 : List Int) : Option ((List (S41)) × Bool) := (impl_teamOf.f k l0 l1).bind fun bt361 => (if bt361.2 = true then ((impl_Person.f l0).bind fun t365 => (impl_GoOnTrip.l0 k l1 t365 (t365.length : Int) 0)) else (some (([] : List (S41)), false)))
set_option maxHeartbeats 8000000 in
set_option maxRecDepth 100000 in
theorem impl_GoOnTrip.calls (k : Nat) (A0 : Option Addr) (c0 : Nat) (l0 : List (S41)) (A1 : Option Addr) (c1 : Nat) (l1 : List Int) (r1 : List (S41)) (r2 : Bool) (w : World) (hr0 : Kd.C k41 w A0 l0.length l0) (hc0 : l0.length ≤ c0) (hr1 : Kd.C (Kd.int .i64) w A1 l1.length l1) (hc1 : l1.length ≤ c1) (h : impl_GoOnTrip.f k l0 l1 = some (r1, r2)) :
  Calls Tryz.prog 13 #[.slice A0 l0.length c0, .slice A1 l1.length c1] w fun e w' => ∃ v0_ : Value, e = .returned (.tuple #[v0_, .bool r2]) ∧ Kd.R k41 41 w' w.heap.size (fun _ => True) v0_ r1 ∧ Below w.heap.size w w' := by
 have HR0 := Aside0.mk hr0; have HC0 := Aside0.mk hc0; clear hr0 hc0; have HR1 := Aside0.mk hr1; have HC1 := Aside0.mk hc1; clear hr1 hc1
 have HB := Aside0.mk (Below.refl w.heap.size w)
 have H : ((impl_teamOf.f k l0 l1).bind fun bt361 => (if bt361.2 = true then ((impl_Person.f l0).bind fun t365 => (impl_GoOnTrip.l0 k l1 t365 (t365.length : Int) 0)) else (some (([] : List (S41)), false)))) = some (r1, r2) := h
 clear h; replace H := Option.bind_eq_some_iff.mp H; obtain ⟨⟨t361, t362⟩, A30, H⟩ := H
 replace H : (if t362 = true then ((impl_Person.f l0).bind fun t365 => (impl_GoOnTrip.l0 k l1 t365 (t365.length : Int) 0)) else (some (([] : List (S41)), false))) = some (r1, r2) := H
 have A3 := Aside0.mk A30; clear A30
 by_cases c4 : t362 = true
 ·subst c4
  have H1 : ((impl_Person.f l0).bind fun t365 => (impl_GoOnTrip.l0 k l1 t365 (t365.length : Int) 0)) = some (r1, r2) := by rw [if_pos rfl] at H; exact H
  clear H; have H := H1; clear H1; replace H := Option.bind_eq_some_iff.mp H; obtain ⟨t365, A50, H⟩ := H
  replace H : (impl_GoOnTrip.l0 k l1 t365 (t365.length : Int) 0) = some (r1, r2) := H
  have A5 := Aside0.mk A50; clear A50
  have H' := Aside0.mk H
  clear H
  go_enter Tryz.func13, Tryz.ntmps13
  go_wp2_with (first | ((with_reducible refine gate_callee (f := 46) rfl ?_); refine goesL_ (some 13) rfl rfl Tryz.func46 (by kernel_rfl) rfl #[.slice A0 l0.length c0, .slice A1 l1.length c1] rfl gl_ ?_; (with_reducible refine (impl_teamOf.calls k _ _ l0 _ _ l1 t361 true _ ?side1 ?side2 ?side3 ?side4 A3.out).mono ?_); (case side1 => exact z11_); (case side2 => exact HC0.out); (case side3 => repeat (first | exact HR1.out | (with_reducible refine Kd.C_alloc ?_ _) | (with_reducible refine Kd.C_drewN ?_ _) | (with_reducible refine Kd.C_drew ?_))); (case side4 => exact HC1.out); rintro e w6 ⟨v363, rfl, ho0, hb⟩; refine ⟨_, rfl, ?_⟩; have n0_ := Aside0.mk (Kd.R_lower ho0 (below_size bx_)); have n1_ := Aside0.mk (below_step bx_ hb); clear HB; have HO364 := n0_; have HB := n1_; clear n0_ n1_; (try clear hb); (try clear hk); (try clear ho0)) | ((with_reducible refine gate_callee (f := 48) rfl ?_); refine goesL_ (some 19) rfl rfl Tryz.func48 (by kernel_rfl) rfl #[.slice A0 l0.length c0] rfl gl_ ?_; (with_reducible refine (impl_Person.calls _ _ l0 t365 _ ?side1 ?side2 A5.out).mono ?_); (case side1 => exact z14_); (case side2 => exact HC0.out); rintro e w7 ⟨v366, rfl, ho0, hb⟩; refine ⟨_, rfl, ?_⟩; have n0_ := Aside0.mk (Kd.R_elder' (kr_ HO364) (Kd.R_base ho0) hb); have n1_ := Aside0.mk (Kd.R_lower (Kd.R_new' ho0 (Kd.R_lt (kr_ HO364))) (below_size bx_)); have n2_ := Aside0.mk (below_step bx_ hb); clear HO364; clear HB; have HO364 := n0_; have HO367 := n1_; have HB := n2_; clear n0_ n1_ n2_; (try clear hb); (try clear hk); (try clear ho0); obtain ⟨Ao8, co8, eo8⟩ := Kd.R_slice HO367.out; subst eo8))
  go_loopg [22] k (fun kq v22 w' => ∃ (x8_1 : List (S41)) (x22_1 : Int), v22 = .int .i64 x22_1 ∧ Aside0 (impl_GoOnTrip.l0 kq l1 x8_1 (t365.length : Int) x22_1 = some (r1, r2)) ∧ Aside0 (kq ≤ k) ∧ Aside0 (Kd.R k41 41 w' w.heap.size (fun _ => True) (.slice Ao8 t365.length co8) x8_1) ∧ Aside0 (Below w.heap.size w w'))
  case atStart => exact ⟨(t365), (0), z2_, H', ⟨Nat.le_refl _⟩, ⟨by (with_reducible repeat (first | apply Kd.R_alloc | apply Kd.R_drewN | apply Kd.R_drew)); exact Kd.R_mono HO367.out (fun _ hk => trivial)⟩, ⟨z5_⟩⟩
  case round =>
   clear H'
   (try clear c4); obtain ⟨x8_1, x22_1, rfl, HA, HK1, HO_8, HB⟩ := hrel
   have hl8_1 := (Kd.R_reads' HO_8.out).1
   rw [hl8_1] at HO_8
   (try simp only [hl8_1])
   cases gk with
   | zero => exact absurd HA.out (by simp [impl_GoOnTrip.l0])
   | succ k1 =>
    have H := HA.out; clear HA
    simp only [impl_GoOnTrip.l0] at H
    by_cases c9 : x22_1 < (t365.length : Int)
    ·rw [if_pos c9] at H
     have c9b0 : decide (x22_1 < (t365.length : Int)) = true := decide_eq_true c9
     clear c9
     by_cases c10 : 0 ≤ x22_1
     ·rw [if_pos c10] at H
      have c10b0 : decide (0 ≤ x22_1) = true := decide_eq_true c10
      clear c10
      by_cases c11 : x22_1 < (x8_1.length : Int)
      ·rw [if_pos c11] at H
       have c11b0 : decide (x22_1 < (x8_1.length : Int)) = true := decide_eq_true c11
       clear c11; replace H := Option.bind_eq_some_iff.mp H; obtain ⟨t369, A120, H⟩ := H
       replace H : (if t369 = true then (impl_GoOnTrip.l0 k1 l1 (x8_1.set (x22_1 : Int).toNat (⟨(rd_T41 x8_1 x22_1).f0, (rd_T41 x8_1 x22_1).f1, (rd_T41 x8_1 x22_1).f2, wrap64 (((rd_T41 x8_1 x22_1).f3) + 1)⟩ : S41)) (t365.length : Int) (wrap64 (x22_1 + 1))) else (impl_GoOnTrip.l0 k1 l1 x8_1 (t365.length : Int) (wrap64 (x22_1 + 1)))) = some (r1, r2) := H
       have A12 := Aside0.mk A120; clear A120
       by_cases c13 : t369 = true
       ·subst c13
        have H1 : (impl_GoOnTrip.l0 k1 l1 (x8_1.set (x22_1 : Int).toNat (⟨(rd_T41 x8_1 x22_1).f0, (rd_T41 x8_1 x22_1).f1, (rd_T41 x8_1 x22_1).f2, wrap64 (((rd_T41 x8_1 x22_1).f3) + 1)⟩ : S41)) (t365.length : Int) (wrap64 (x22_1 + 1))) = some (r1, r2) := by rw [if_pos rfl] at H; exact H
        clear H; have H := H1; clear H1
        obtain ⟨y371, hy371⟩ : ∃ y_ : List (S41), y_ = (x8_1.set (x22_1 : Int).toNat (⟨(rd_T41 x8_1 x22_1).f0, (rd_T41 x8_1 x22_1).f1, (rd_T41 x8_1 x22_1).f2, wrap64 (((rd_T41 x8_1 x22_1).f3) + 1)⟩ : S41)) := ⟨_, rfl⟩
        replace H : (impl_GoOnTrip.l0 k1 l1 y371 (t365.length : Int) (wrap64 (x22_1 + 1))) = some (r1, r2) := by first | (rw [hy371]; with_reducible exact H) | (have H2_ := (Option.bind_some _ _).symm.trans H; rw [hy371]; with_reducible exact H2_) | (have H2_ := (Option.bind_some _ _).symm.trans H; with_reducible exact H2_) | with_reducible exact H | (rw [hy371]; exact H) | exact H
        have Ny371 := Aside0.mk hy371; clear hy371
        have H' := Aside0.mk H
        clear H
        have p368 : 0 ≤ (x22_1 : Int) := od_
        have q368 : x22_1 < (x8_1.length : Int) := od_
        obtain ⟨ad368, e368, hx368_0, hx368_1, hx368_2, hx368_3⟩ := at_T41 (Kd.R_reads' HO_8.out).2.2 x22_1 p368 q368
        cases e368
        replace p368 := eq_true p368
        replace q368 := eq_true q368
        go_wp2_with (first | ((with_reducible refine gate_callee (f := 49) rfl ?_); refine goesL_ (some 31) rfl rfl Tryz.func49 (by kernel_rfl) rfl #[.slice A1 l1.length c1, .int .i64 ((rd_T41 x8_1 x22_1).f0)] rfl gl_ ?_; (with_reducible refine (impl_has.calls k1 _ _ l1 ((rd_T41 x8_1 x22_1).f0) true _ ?side1 ?side2 A12.out).mono ?_); (case side1 => exact z37_); (case side2 => exact HC1.out); rintro e w' ⟨rfl, ⟨nd, rfl⟩⟩; refine ⟨_, rfl, ?_⟩; (try (rw [drewN_self wr]; generalize hq_ : World.drewN wr _ = wr; have n0_ : Aside0 (Kd.R k41 41 wr w.heap.size (fun _ => True) (.slice (some ad368) x8_1.length co8) x8_1) := ⟨by rw [← hq_]; exact (kr_ HO_8)⟩; have n1_ : Aside0 (Below w.heap.size w wr) := ⟨by rw [← hq_]; exact bx_⟩; clear HO_8 HB hq_; have HO_8 := n0_; have HB := n1_; clear n0_ n1_)); have p370 : 0 ≤ (x22_1 : Int) := od_; have q370 : x22_1 < (x8_1.length : Int) := od_; obtain ⟨ad370, e370, hx370_0, hx370_1, hx370_2, hx370_3⟩ := at_T41 (Kd.R_reads' HO_8.out).2.2 x22_1 p370 q370; obtain rfl : ad368 = ad370 := (by injection e370); replace p370 := eq_true p370; replace q370 := eq_true q370; have p14 : 0 ≤ (x22_1 : Int) := od_; have q14 : (x22_1 : Int) < ((x8_1.length : Int) : Int) := od_; obtain ⟨go14, co14, eo14, gb14, gl14, cl14, HG14⟩ := Kd.R_form HO_8.out (by omega); (first | cases eo14 | (injection eo14 with ea_ en_ ec_; (first | subst ea_ | (injection ea_ with ea_; subst ea_)); subst ec_; clear en_)); have GB14 := Aside0.mk gb14; have GG14 := Aside0.mk HG14; clear gb14 gl14 HG14; (first | simp only [add_plain] at hx368_0 | skip); (first | simp only [add_plain] at hx368_1 | skip); (first | simp only [add_plain] at hx368_2 | skip); (first | simp only [add_plain] at hx368_3 | skip); (first | simp only [add_plain] at hx370_0 | skip); (first | simp only [add_plain] at hx370_1 | skip); (first | simp only [add_plain] at hx370_2 | skip); (first | simp only [add_plain] at hx370_3 | skip); obtain ⟨ce14, hcl14, hM14, hcc14, hfr14⟩ := Kd.R_elem HO_8.out z41 (x22_1 : Int) p14 q14; obtain rfl := k41_openM hM14; have hx14_0 : wr.cell? ⟨go14, (x22_1 : Int).toNat * 4, none⟩ = some (.int .i64 ((rd_T41 x8_1 x22_1).f0)) := hcc14 0 _ rfl; have hx14_1 : wr.cell? ⟨go14, (x22_1 : Int).toNat * 4 + 1, none⟩ = some (.string ((rd_T41 x8_1 x22_1).f1)) := hcc14 1 _ rfl; have hx14_2 : wr.cell? ⟨go14, (x22_1 : Int).toNat * 4 + 2, none⟩ = some (.int .i64 ((rd_T41 x8_1 x22_1).f2)) := hcc14 2 _ rfl; have hx14_3 : wr.cell? ⟨go14, (x22_1 : Int).toNat * 4 + 3, none⟩ = some (.int .i64 ((rd_T41 x8_1 x22_1).f3)) := hcc14 3 _ rfl; have hf14_0 : wr.frozen? ⟨go14, (x22_1 : Int).toNat * 4, none⟩ = false := hfr14 0; have hf14_1 : wr.frozen? ⟨go14, (x22_1 : Int).toNat * 4 + 1, none⟩ = false := hfr14 1; have hf14_2 : wr.frozen? ⟨go14, (x22_1 : Int).toNat * 4 + 2, none⟩ = false := hfr14 2; have hf14_3 : wr.frozen? ⟨go14, (x22_1 : Int).toNat * 4 + 3, none⟩ = false := hfr14 3; clear hcl14 hcc14 hfr14 hM14; replace p14 := eq_true p14; replace q14 := eq_true q14; have HX15 := Aside0.mk (show Kd.R k41 41 wr w.heap.size (fun _ => True) (.slice (some ⟨go14, 0, none⟩) x8_1.length co8) x8_1 from (kr_ HO_8)); obtain ⟨ce15, hcl15, hM15, hcc15, hfr15⟩ := Kd.R_elem HX15.out z41 (x22_1 : Int) (od_) (by have h_ : (x22_1 : Int) < ((x8_1.length : Int) : Int) := od_; first | exact h_ | (have e_ := (Kd.R_reads' HO_8.out).1; omega) | simpa using h_); obtain rfl := k41_openM hM15; have HP15 := Kd.R_seg HX15.out (x22_1 : Int) (od_) (by have h_ : (x22_1 : Int) < ((x8_1.length : Int) : Int) := od_; first | exact h_ | (have e_ := (Kd.R_reads' HO_8.out).1; omega) | simpa using h_) (seg := [.int .i64 (wrap64 (((rd_T41 x8_1 x22_1).f3) + 1))]) (j := 3) hcl15 hcc15 (show 4 ≤ 4 from by decide) (x' := (⟨(rd_T41 x8_1 x22_1).f0, (rd_T41 x8_1 x22_1).f1, (rd_T41 x8_1 x22_1).f2, wrap64 (((rd_T41 x8_1 x22_1).f3) + 1)⟩ : S41)) (k41_mkM _ _ _ (⟨(rd_T41 x8_1 x22_1).f0, (rd_T41 x8_1 x22_1).f1, (rd_T41 x8_1 x22_1).f2, wrap64 (((rd_T41 x8_1 x22_1).f3) + 1)⟩ : S41) ) (fun _ hk => hk); have hx15_3 := hcc15 3 _ rfl; (try simp only [show (k41).sz = 4 from rfl, Nat.mul_one, Nat.add_zero] at hx15_3); have hf15_3 := hfr15 3; (try simp only [show (k41).sz = 4 from rfl, Nat.mul_one, Nat.add_zero] at hf15_3); clear hcl15 hcc15 hfr15 hM15) | ((with_reducible refine gate_store (t := 3) (p := 39) rfl ?_); refine store_event (t := 3) (p := 39) (v := ?vo_w16) (w1 := (wr.setCell ⟨go14, (x22_1 : Int).toNat * 4 + 3, none⟩ (.int .i64 (wrap64 (((rd_T41 x8_1 x22_1).f3) + 1))))) ?hg ?ho ?hn ?hr ?_; (case ho => rfl); (case hg => rfl); (case hn => rfl); (case hr => first | (go_simp; done) | (go_simp; rfl)); intro w16 hw; have hg : wr.grownBy w16 (some go14) := (by rw [hw]; exact HP15.2); have hp_ : Kd.R k41 41 w16 w.heap.size (fun _ => True) (.slice (some ⟨go14, 0, none⟩) x8_1.length co8) y371 := (by rw [hw, Ny371.out]; exact HP15.1); clear HP15; have n0_ := Aside0.mk (hp_); have n1_ := Aside0.mk ((by rw [hw]; exact below_set (HB.out) GB14.out : Below w.heap.size w w16)); clear HO_8; clear HB; have HO_8 := n0_; have HB := n1_; clear n0_ n1_; clear hg hw hp_))
        (try simp only [← hl8_1])
        go_roundg k1
        case measure => have := HK1.out; omega
        case rel => exact ⟨(y371), (wrap64 (x22_1 + 1)), z2_, H', ⟨by have := HK1.out; omega⟩, ⟨by (try simp only [hl8_1]); (with_reducible repeat (first | apply Kd.R_alloc | apply Kd.R_drewN | apply Kd.R_drew)); exact HO_8.out⟩, ⟨z5_⟩⟩
       ·replace c13 := Bool.eq_false_iff.mpr c13
        subst c13
        have H1 : (impl_GoOnTrip.l0 k1 l1 x8_1 (t365.length : Int) (wrap64 (x22_1 + 1))) = some (r1, r2) := by rw [if_neg (show ¬ (false = true) by decide)] at H; exact H
        clear H; have H := H1; clear H1
        have H' := Aside0.mk H
        clear H
        have p368 : 0 ≤ (x22_1 : Int) := od_
        have q368 : x22_1 < (x8_1.length : Int) := od_
        obtain ⟨ad368, e368, hx368_0, hx368_1, hx368_2, hx368_3⟩ := at_T41 (Kd.R_reads' HO_8.out).2.2 x22_1 p368 q368
        cases e368
        replace p368 := eq_true p368
        replace q368 := eq_true q368
        go_wp2_with (first | ((with_reducible refine gate_callee (f := 49) rfl ?_); refine goesL_ (some 31) rfl rfl Tryz.func49 (by kernel_rfl) rfl #[.slice A1 l1.length c1, .int .i64 ((rd_T41 x8_1 x22_1).f0)] rfl gl_ ?_; (with_reducible refine (impl_has.calls k1 _ _ l1 ((rd_T41 x8_1 x22_1).f0) false _ ?side1 ?side2 A12.out).mono ?_); (case side1 => exact z37_); (case side2 => exact HC1.out); rintro e w' ⟨rfl, ⟨nd, rfl⟩⟩; refine ⟨_, rfl, ?_⟩))
        (try simp only [← hl8_1])
        go_roundg k1
        case measure => have := HK1.out; omega
        case rel => exact ⟨(x8_1), (wrap64 (x22_1 + 1)), z2_, H', ⟨by have := HK1.out; omega⟩, ⟨by (try simp only [hl8_1]); (with_reducible repeat (first | apply Kd.R_alloc | apply Kd.R_drewN | apply Kd.R_drew)); exact HO_8.out⟩, ⟨z5_⟩⟩
      ·rw [if_neg c11] at H
       exact absurd H (by simp)
     ·rw [if_neg c10] at H
      exact absurd H (by simp)
    ·rw [if_neg c9] at H
     have c9b0 : decide (x22_1 < (t365.length : Int)) = false := decide_eq_false c9
     (try rw [hl8_1] at c9b0)
     clear c9; replace H := Option.bind_eq_some_iff.mp H; obtain ⟨t372, A170, H⟩ := H
     replace H : (if t372 = true then (some (x8_1, true)) else (some (([] : List (S41)), false))) = some (r1, r2) := H
     have A17 := Aside0.mk A170; clear A170
     by_cases c18 : t372 = true
     ·subst c18
      have H1 : (some (x8_1, true)) = some (r1, r2) := by rw [if_pos rfl] at H; exact H
      clear H; have H := H1; clear H1
      simp only [Option.some.injEq, Prod.mk.injEq] at H
      obtain ⟨rfl, rfl⟩ := H
      go_wp2_with (first | ((with_reducible refine gate_callee (f := 21) rfl ?_); refine goesL_ (some 42) rfl rfl Tryz.func21 (by kernel_rfl) rfl #[.slice Ao8 x8_1.length co8] rfl gl_ ?_; (with_reducible refine (impl_ArePeople.calls k1 _ _ x8_1 true _ ?side1 ?side2 A17.out).mono ?_); (case side1 => exact z36_); (case side2 => exact (Kd.R_reads' HO_8.out).2.1); rintro e w19 ⟨rfl, hb⟩; refine ⟨_, rfl, ?_⟩; have n0_ := Aside0.mk (Kd.R_below (kr_ HO_8) hb); have n1_ := Aside0.mk (below_step bx_ hb); clear HO_8; clear HB; have HO_8 := n0_; have HB := n1_; clear n0_ n1_; (try clear hb); (try clear hk)))
      go_ret2
      exact ⟨_, z6_, by (with_reducible repeat (first | apply Kd.R_alloc | apply Kd.R_drewN | apply Kd.R_drew)); exact HO_8.out, z5_⟩
     ·replace c18 := Bool.eq_false_iff.mpr c18
      subst c18
      have H1 : (some (([] : List (S41)), false)) = some (r1, r2) := by rw [if_neg (show ¬ (false = true) by decide)] at H; exact H
      clear H; have H := H1; clear H1
      simp only [Option.some.injEq, Prod.mk.injEq] at H
      obtain ⟨rfl, rfl⟩ := H
      go_wp2_with (first | ((with_reducible refine gate_callee (f := 21) rfl ?_); refine goesL_ (some 42) rfl rfl Tryz.func21 (by kernel_rfl) rfl #[.slice Ao8 x8_1.length co8] rfl gl_ ?_; (with_reducible refine (impl_ArePeople.calls k1 _ _ x8_1 false _ ?side1 ?side2 A17.out).mono ?_); (case side1 => exact z36_); (case side2 => exact (Kd.R_reads' HO_8.out).2.1); rintro e w20 ⟨rfl, hb⟩; refine ⟨_, rfl, ?_⟩; have n0_ := Aside0.mk (Kd.R_below (kr_ HO_8) hb); have n1_ := Aside0.mk (below_step bx_ hb); clear HO_8; clear HB; have HO_8 := n0_; have HB := n1_; clear n0_ n1_; (try clear hb); (try clear hk)))
      go_ret2
      exact ⟨_, z6_, z28_, z5_⟩
 ·replace c4 := Bool.eq_false_iff.mpr c4
  subst c4
  have H1 : (some (([] : List (S41)), false)) = some (r1, r2) := by rw [if_neg (show ¬ (false = true) by decide)] at H; exact H
  clear H; have H := H1; clear H1
  simp only [Option.some.injEq, Prod.mk.injEq] at H
  obtain ⟨rfl, rfl⟩ := H
  go_enter Tryz.func13, Tryz.ntmps13
  go_wp2_with (first | ((with_reducible refine gate_callee (f := 46) rfl ?_); refine goesL_ (some 13) rfl rfl Tryz.func46 (by kernel_rfl) rfl #[.slice A0 l0.length c0, .slice A1 l1.length c1] rfl gl_ ?_; (with_reducible refine (impl_teamOf.calls k _ _ l0 _ _ l1 t361 false _ ?side1 ?side2 ?side3 ?side4 A3.out).mono ?_); (case side1 => exact z11_); (case side2 => exact HC0.out); (case side3 => repeat (first | exact HR1.out | (with_reducible refine Kd.C_alloc ?_ _) | (with_reducible refine Kd.C_drewN ?_ _) | (with_reducible refine Kd.C_drew ?_))); (case side4 => exact HC1.out); rintro e w21 ⟨v363, rfl, ho0, hb⟩; refine ⟨_, rfl, ?_⟩; have n0_ := Aside0.mk (Kd.R_lower ho0 (below_size bx_)); have n1_ := Aside0.mk (below_step bx_ hb); clear HB; have HO364 := n0_; have HB := n1_; clear n0_ n1_; (try clear hb); (try clear hk); (try clear ho0)))
  go_ret2
  exact ⟨_, z6_, z28_, z5_⟩

/-! ### spec_l1Rising: function 72 -/
def spec_l1Rising.l0 : Nat → List Int → Int → Int → Int → Option (Bool)
 | 0, _, _, _, _ => none
 | k + 1, x0, x1, x2, x7 => if x7 < (x0.length : Int) then (if 0 ≤ x7 then ((spec_l1In.f (rd x0 x7) x1 x2).bind fun t374 => (if t374 = true then (if x7 > 0 then (if 0 ≤ (wrap64 (x7 - 1)) then (if (wrap64 (x7 - 1)) < (x0.length : Int) then (if (rd x0 (wrap64 (x7 - 1))) ≥ (rd x0 x7) then (some false) else (spec_l1Rising.l0 k x0 x1 x2 (wrap64 (x7 + 1)))) else (none)) else (none)) else (spec_l1Rising.l0 k x0 x1 x2 (wrap64 (x7 + 1)))) else (some false))) else (none)) else (some true)
def spec_l1Rising.f (k : Nat) (l0 : List Int) (a1 : Int) (a2 : Int) : Option (Bool) := spec_l1Rising.l0 k l0 a1 a2 0
set_option maxHeartbeats 8000000 in
set_option maxRecDepth 100000 in
theorem spec_l1Rising.calls (k : Nat) (A0 : Option Addr) (c0 : Nat) (l0 : List Int) (a1 : Int) (a2 : Int) (r : Bool) (w : World) (hr0 : Kd.C (Kd.int .i64) w A0 l0.length l0) (hc0 : l0.length ≤ c0) (h : spec_l1Rising.f k l0 a1 a2 = some r) :
  Calls Tryz.prog 72 #[.slice A0 l0.length c0, .int .i64 a1, .int .i64 a2] w fun e w' => e = .returned (.bool r) ∧ Drawn0 w w' := by
 have HR0 := Aside0.mk hr0; have HC0 := Aside0.mk hc0; clear hr0 hc0
 have H : (spec_l1Rising.l0 k l0 a1 a2 0) = some r := h
 clear h
 have H' := Aside0.mk H
 clear H
 go_enter Tryz.func72, Tryz.ntmps72
 go_wp2
 repeat (go_quiet (fail); try go_wp2)
 go_loopg [7] k (fun kq v7 w' => ∃ (x7_1 : Int), v7 = .int .i64 x7_1 ∧ Aside0 (spec_l1Rising.l0 kq l0 a1 a2 x7_1 = some r) ∧ Aside0 (kq ≤ k) ∧ Drawn0 w w')
 case atStart => exact ⟨(0), z2_, H', ⟨Nat.le_refl _⟩, z7_⟩
 case round =>
  clear H'
  obtain ⟨x7_1, rfl, HA, HK1, ⟨m1, rfl⟩⟩ := hrel
  cases gk with
  | zero => exact absurd HA.out (by simp [spec_l1Rising.l0])
  | succ k1 =>
   have H := HA.out; clear HA
   simp only [spec_l1Rising.l0] at H
   by_cases c4 : x7_1 < (l0.length : Int)
   ·rw [if_pos c4] at H
    have c4b0 : decide (x7_1 < (l0.length : Int)) = true := decide_eq_true c4
    clear c4
    by_cases c5 : 0 ≤ x7_1
    ·rw [if_pos c5] at H
     have c5b0 : decide (0 ≤ x7_1) = true := decide_eq_true c5
     clear c5; replace H := Option.bind_eq_some_iff.mp H; obtain ⟨t374, A60, H⟩ := H
     replace H : (if t374 = true then (if x7_1 > 0 then (if 0 ≤ (wrap64 (x7_1 - 1)) then (if (wrap64 (x7_1 - 1)) < (l0.length : Int) then (if (rd l0 (wrap64 (x7_1 - 1))) ≥ (rd l0 x7_1) then (some false) else (spec_l1Rising.l0 k1 l0 a1 a2 (wrap64 (x7_1 + 1)))) else (none)) else (none)) else (spec_l1Rising.l0 k1 l0 a1 a2 (wrap64 (x7_1 + 1)))) else (some false)) = some r := H
     have A6 := Aside0.mk A60; clear A60
     by_cases c7 : t374 = true
     ·subst c7
      have H1 : (if x7_1 > 0 then (if 0 ≤ (wrap64 (x7_1 - 1)) then (if (wrap64 (x7_1 - 1)) < (l0.length : Int) then (if (rd l0 (wrap64 (x7_1 - 1))) ≥ (rd l0 x7_1) then (some false) else (spec_l1Rising.l0 k1 l0 a1 a2 (wrap64 (x7_1 + 1)))) else (none)) else (none)) else (spec_l1Rising.l0 k1 l0 a1 a2 (wrap64 (x7_1 + 1)))) = some r := by rw [if_pos rfl] at H; exact H
      clear H; have H := H1; clear H1
      by_cases c8 : x7_1 > 0
      ·rw [if_pos c8] at H
       have c8b0 : decide (0 < x7_1) = true := decide_eq_true c8
       clear c8
       obtain ⟨ji9, hji9⟩ : ∃ j_ : Int, (wrap64 (x7_1 - 1)) = j_ := ⟨_, rfl⟩
       replace H : (if 0 ≤ (ji9) then (if (ji9) < (l0.length : Int) then (if (rd l0 (ji9)) ≥ (rd l0 x7_1) then (some false) else (spec_l1Rising.l0 k1 l0 a1 a2 (wrap64 (x7_1 + 1)))) else (none)) else (none)) = some r := by first | (rw [hji9] at H; exact H) | (simp only [hji9] at H ⊢; exact H)
       (try rw [hji9] at A6)
       have hji9w : (IntKind.i64.wrap (x7_1 - 1)) = ji9 := (i64_w _).trans hji9
       by_cases c10 : 0 ≤ (ji9)
       ·rw [if_pos c10] at H
        have c10b0 : decide (0 ≤ (ji9)) = true := decide_eq_true c10
        clear c10
        by_cases c11 : (ji9) < (l0.length : Int)
        ·rw [if_pos c11] at H
         have c11b0 : decide ((ji9) < (l0.length : Int)) = true := decide_eq_true c11
         clear c11
         by_cases c12 : (rd l0 (ji9)) ≥ (rd l0 x7_1)
         ·rw [if_pos c12] at H
          have c12b0 : decide ((rd l0 x7_1) ≤ (rd l0 (ji9))) = true := decide_eq_true c12
          clear c12
          obtain rfl := Option.some.inj H
          have p373 : 0 ≤ (x7_1 : Int) := od_
          have q373 : x7_1 < (l0.length : Int) := od_
          obtain ⟨ad373, e373, hx373_0⟩ := Kd.at_int HR0.out x7_1 p373 q373
          cases e373
          replace p373 := eq_true p373
          replace q373 := eq_true q373
          go_wp2_with (first | (go_at_call 65; (with_reducible refine (spec_l1In.calls (rd l0 x7_1) a1 a2 true _ A6.out).mono ?_); rintro e w' ⟨rfl, ⟨nd, rfl⟩⟩; (try first | exact ⟨rfl, _, World.drewN_drewN _ _ _⟩ | exact ⟨rfl, _, Eq.trans (World.drewN_drewN _ _ _) (congrArg (World.drewN _) (Nat.add_assoc _ _ _))⟩); have p375 : 0 ≤ ((ji9) : Int) := od_; have q375 : (ji9) < (l0.length : Int) := od_; obtain ⟨ad375, e375, hx375_0⟩ := Kd.at_int HR0.out (ji9) p375 q375; obtain rfl : ad373 = ad375 := (by injection e375); replace p375 := eq_true p375; replace q375 := eq_true q375; have p376 : 0 ≤ (x7_1 : Int) := od_; have q376 : x7_1 < (l0.length : Int) := od_; obtain ⟨ad376, e376, hx376_0⟩ := Kd.at_int HR0.out x7_1 p376 q376; obtain rfl : ad373 = ad376 := (by injection e376); replace p376 := eq_true p376; replace q376 := eq_true q376))
          repeat (go_quiet (first | (go_at_call 65; (with_reducible refine (spec_l1In.calls (rd l0 x7_1) a1 a2 true _ A6.out).mono ?_); rintro e w' ⟨rfl, ⟨nd, rfl⟩⟩; (try first | exact ⟨rfl, _, World.drewN_drewN _ _ _⟩ | exact ⟨rfl, _, Eq.trans (World.drewN_drewN _ _ _) (congrArg (World.drewN _) (Nat.add_assoc _ _ _))⟩); have p375 : 0 ≤ ((ji9) : Int) := od_; have q375 : (ji9) < (l0.length : Int) := od_; obtain ⟨ad375, e375, hx375_0⟩ := Kd.at_int HR0.out (ji9) p375 q375; obtain rfl : ad373 = ad375 := (by injection e375); replace p375 := eq_true p375; replace q375 := eq_true q375; have p376 : 0 ≤ (x7_1 : Int) := od_; have q376 : x7_1 < (l0.length : Int) := od_; obtain ⟨ad376, e376, hx376_0⟩ := Kd.at_int HR0.out x7_1 p376 q376; obtain rfl : ad373 = ad376 := (by injection e376); replace p376 := eq_true p376; replace q376 := eq_true q376)); try go_wp2_with (first | (go_at_call 65; (with_reducible refine (spec_l1In.calls (rd l0 x7_1) a1 a2 true _ A6.out).mono ?_); rintro e w' ⟨rfl, ⟨nd, rfl⟩⟩; (try first | exact ⟨rfl, _, World.drewN_drewN _ _ _⟩ | exact ⟨rfl, _, Eq.trans (World.drewN_drewN _ _ _) (congrArg (World.drewN _) (Nat.add_assoc _ _ _))⟩); have p375 : 0 ≤ ((ji9) : Int) := od_; have q375 : (ji9) < (l0.length : Int) := od_; obtain ⟨ad375, e375, hx375_0⟩ := Kd.at_int HR0.out (ji9) p375 q375; obtain rfl : ad373 = ad375 := (by injection e375); replace p375 := eq_true p375; replace q375 := eq_true q375; have p376 : 0 ≤ (x7_1 : Int) := od_; have q376 : x7_1 < (l0.length : Int) := od_; obtain ⟨ad376, e376, hx376_0⟩ := Kd.at_int HR0.out x7_1 p376 q376; obtain rfl : ad373 = ad376 := (by injection e376); replace p376 := eq_true p376; replace q376 := eq_true q376)))
          go_ret
          exact ⟨by first | rfl | (simp; done) | (simp only [← hji9] <;> (first | rfl | simp)) | (simp [*]; done), z7_⟩
         ·rw [if_neg c12] at H
          have c12b0 : decide ((rd l0 x7_1) ≤ (rd l0 (ji9))) = false := decide_eq_false c12
          clear c12
          have H' := Aside0.mk H
          clear H
          have p373 : 0 ≤ (x7_1 : Int) := od_
          have q373 : x7_1 < (l0.length : Int) := od_
          obtain ⟨ad373, e373, hx373_0⟩ := Kd.at_int HR0.out x7_1 p373 q373
          cases e373
          replace p373 := eq_true p373
          replace q373 := eq_true q373
          go_wp2_with (first | (go_at_call 65; (with_reducible refine (spec_l1In.calls (rd l0 x7_1) a1 a2 true _ A6.out).mono ?_); rintro e w' ⟨rfl, ⟨nd, rfl⟩⟩; (try first | exact ⟨rfl, _, World.drewN_drewN _ _ _⟩ | exact ⟨rfl, _, Eq.trans (World.drewN_drewN _ _ _) (congrArg (World.drewN _) (Nat.add_assoc _ _ _))⟩); have p375 : 0 ≤ ((ji9) : Int) := od_; have q375 : (ji9) < (l0.length : Int) := od_; obtain ⟨ad375, e375, hx375_0⟩ := Kd.at_int HR0.out (ji9) p375 q375; obtain rfl : ad373 = ad375 := (by injection e375); replace p375 := eq_true p375; replace q375 := eq_true q375; have p376 : 0 ≤ (x7_1 : Int) := od_; have q376 : x7_1 < (l0.length : Int) := od_; obtain ⟨ad376, e376, hx376_0⟩ := Kd.at_int HR0.out x7_1 p376 q376; obtain rfl : ad373 = ad376 := (by injection e376); replace p376 := eq_true p376; replace q376 := eq_true q376))
          repeat (go_quiet (first | (go_at_call 65; (with_reducible refine (spec_l1In.calls (rd l0 x7_1) a1 a2 true _ A6.out).mono ?_); rintro e w' ⟨rfl, ⟨nd, rfl⟩⟩; (try first | exact ⟨rfl, _, World.drewN_drewN _ _ _⟩ | exact ⟨rfl, _, Eq.trans (World.drewN_drewN _ _ _) (congrArg (World.drewN _) (Nat.add_assoc _ _ _))⟩); have p375 : 0 ≤ ((ji9) : Int) := od_; have q375 : (ji9) < (l0.length : Int) := od_; obtain ⟨ad375, e375, hx375_0⟩ := Kd.at_int HR0.out (ji9) p375 q375; obtain rfl : ad373 = ad375 := (by injection e375); replace p375 := eq_true p375; replace q375 := eq_true q375; have p376 : 0 ≤ (x7_1 : Int) := od_; have q376 : x7_1 < (l0.length : Int) := od_; obtain ⟨ad376, e376, hx376_0⟩ := Kd.at_int HR0.out x7_1 p376 q376; obtain rfl : ad373 = ad376 := (by injection e376); replace p376 := eq_true p376; replace q376 := eq_true q376)); try go_wp2_with (first | (go_at_call 65; (with_reducible refine (spec_l1In.calls (rd l0 x7_1) a1 a2 true _ A6.out).mono ?_); rintro e w' ⟨rfl, ⟨nd, rfl⟩⟩; (try first | exact ⟨rfl, _, World.drewN_drewN _ _ _⟩ | exact ⟨rfl, _, Eq.trans (World.drewN_drewN _ _ _) (congrArg (World.drewN _) (Nat.add_assoc _ _ _))⟩); have p375 : 0 ≤ ((ji9) : Int) := od_; have q375 : (ji9) < (l0.length : Int) := od_; obtain ⟨ad375, e375, hx375_0⟩ := Kd.at_int HR0.out (ji9) p375 q375; obtain rfl : ad373 = ad375 := (by injection e375); replace p375 := eq_true p375; replace q375 := eq_true q375; have p376 : 0 ≤ (x7_1 : Int) := od_; have q376 : x7_1 < (l0.length : Int) := od_; obtain ⟨ad376, e376, hx376_0⟩ := Kd.at_int HR0.out x7_1 p376 q376; obtain rfl : ad373 = ad376 := (by injection e376); replace p376 := eq_true p376; replace q376 := eq_true q376)))
          go_roundg k1
          case measure => have := HK1.out; omega
          case rel => exact ⟨(wrap64 (x7_1 + 1)), z2_, H', ⟨by have := HK1.out; omega⟩, z7_⟩
        ·rw [if_neg c11] at H
         exact absurd H (by simp)
       ·rw [if_neg c10] at H
        exact absurd H (by simp)
      ·rw [if_neg c8] at H
       have c8b0 : decide (0 < x7_1) = false := decide_eq_false c8
       clear c8
       have H' := Aside0.mk H
       clear H
       have p373 : 0 ≤ (x7_1 : Int) := od_
       have q373 : x7_1 < (l0.length : Int) := od_
       obtain ⟨ad373, e373, hx373_0⟩ := Kd.at_int HR0.out x7_1 p373 q373
       cases e373
       replace p373 := eq_true p373
       replace q373 := eq_true q373
       go_wp2_with (first | (go_at_call 65; (with_reducible refine (spec_l1In.calls (rd l0 x7_1) a1 a2 true _ A6.out).mono ?_); rintro e w' ⟨rfl, ⟨nd, rfl⟩⟩; (try first | exact ⟨rfl, _, World.drewN_drewN _ _ _⟩ | exact ⟨rfl, _, Eq.trans (World.drewN_drewN _ _ _) (congrArg (World.drewN _) (Nat.add_assoc _ _ _))⟩)))
       repeat (go_quiet (first | (go_at_call 65; (with_reducible refine (spec_l1In.calls (rd l0 x7_1) a1 a2 true _ A6.out).mono ?_); rintro e w' ⟨rfl, ⟨nd, rfl⟩⟩; (try first | exact ⟨rfl, _, World.drewN_drewN _ _ _⟩ | exact ⟨rfl, _, Eq.trans (World.drewN_drewN _ _ _) (congrArg (World.drewN _) (Nat.add_assoc _ _ _))⟩))); try go_wp2_with (first | (go_at_call 65; (with_reducible refine (spec_l1In.calls (rd l0 x7_1) a1 a2 true _ A6.out).mono ?_); rintro e w' ⟨rfl, ⟨nd, rfl⟩⟩; (try first | exact ⟨rfl, _, World.drewN_drewN _ _ _⟩ | exact ⟨rfl, _, Eq.trans (World.drewN_drewN _ _ _) (congrArg (World.drewN _) (Nat.add_assoc _ _ _))⟩))))
       go_roundg k1
       case measure => have := HK1.out; omega
       case rel => exact ⟨(wrap64 (x7_1 + 1)), z2_, H', ⟨by have := HK1.out; omega⟩, z7_⟩
     ·replace c7 := Bool.eq_false_iff.mpr c7
      subst c7
      have H1 : (some false) = some r := by rw [if_neg (show ¬ (false = true) by decide)] at H; exact H
      clear H; have H := H1; clear H1
      obtain rfl := Option.some.inj H
      have p373 : 0 ≤ (x7_1 : Int) := od_
      have q373 : x7_1 < (l0.length : Int) := od_
      obtain ⟨ad373, e373, hx373_0⟩ := Kd.at_int HR0.out x7_1 p373 q373
      cases e373
      replace p373 := eq_true p373
      replace q373 := eq_true q373
      go_wp2_with (first | (go_at_call 65; (with_reducible refine (spec_l1In.calls (rd l0 x7_1) a1 a2 false _ A6.out).mono ?_); rintro e w' ⟨rfl, ⟨nd, rfl⟩⟩; (try first | exact ⟨rfl, _, World.drewN_drewN _ _ _⟩ | exact ⟨rfl, _, Eq.trans (World.drewN_drewN _ _ _) (congrArg (World.drewN _) (Nat.add_assoc _ _ _))⟩)))
      repeat (go_quiet (first | (go_at_call 65; (with_reducible refine (spec_l1In.calls (rd l0 x7_1) a1 a2 false _ A6.out).mono ?_); rintro e w' ⟨rfl, ⟨nd, rfl⟩⟩; (try first | exact ⟨rfl, _, World.drewN_drewN _ _ _⟩ | exact ⟨rfl, _, Eq.trans (World.drewN_drewN _ _ _) (congrArg (World.drewN _) (Nat.add_assoc _ _ _))⟩))); try go_wp2_with (first | (go_at_call 65; (with_reducible refine (spec_l1In.calls (rd l0 x7_1) a1 a2 false _ A6.out).mono ?_); rintro e w' ⟨rfl, ⟨nd, rfl⟩⟩; (try first | exact ⟨rfl, _, World.drewN_drewN _ _ _⟩ | exact ⟨rfl, _, Eq.trans (World.drewN_drewN _ _ _) (congrArg (World.drewN _) (Nat.add_assoc _ _ _))⟩))))
      go_ret
      exact ⟨z2_, z7_⟩
    ·rw [if_neg c5] at H
     exact absurd H (by simp)
   ·rw [if_neg c4] at H
    have c4b0 : decide (x7_1 < (l0.length : Int)) = false := decide_eq_false c4
    clear c4
    obtain rfl := Option.some.inj H
    go_wp2
    repeat (go_quiet (fail); try go_wp2)
    go_ret
    exact ⟨z2_, z7_⟩

/-! ### spec_l5Asked: function 50 -/
def spec_l5Asked.l0 : Nat → List (S41) → List Int → Int → Option (Bool)
 | 0, _, _, _ => none
 | k + 1, x0, x1, x5 => if x5 < (x1.length : Int) then (if 0 ≤ x5 then ((spec_l5Find.f k x0 (rd x1 x5)).bind fun t378 => (if t378 < 0 then (some false) else (spec_l5Asked.l0 k x0 x1 (wrap64 (x5 + 1))))) else (none)) else ((spec_l5Good.f k x0).bind fun t379 => (if t379 = true then ((spec_l1Rising.f k x1 1 99).bind fun t380 => (some t380)) else (some false)))
def spec_l5Asked.f (k : Nat) (l0 : List (S41)) (l1 : List Int) : Option (Bool) := spec_l5Asked.l0 k l0 l1 0
set_option maxHeartbeats 8000000 in
set_option maxRecDepth 100000 in
theorem spec_l5Asked.calls (k : Nat) (A0 : Option Addr) (c0 : Nat) (l0 : List (S41)) (A1 : Option Addr) (c1 : Nat) (l1 : List Int) (r : Bool) (w : World) (hr0 : Kd.C k41 w A0 l0.length l0) (hc0 : l0.length ≤ c0) (hr1 : Kd.C (Kd.int .i64) w A1 l1.length l1) (hc1 : l1.length ≤ c1) (h : spec_l5Asked.f k l0 l1 = some r) :
  Calls Tryz.prog 50 #[.slice A0 l0.length c0, .slice A1 l1.length c1] w fun e w' => e = .returned (.bool r) ∧ Below w.heap.size w w' := by
 have HR0 := Aside0.mk hr0; have HC0 := Aside0.mk hc0; clear hr0 hc0; have HR1 := Aside0.mk hr1; have HC1 := Aside0.mk hc1; clear hr1 hc1
 have HB := Aside0.mk (Below.refl w.heap.size w)
 have H : (spec_l5Asked.l0 k l0 l1 0) = some r := h
 clear h
 have H' := Aside0.mk H
 clear H
 go_enter Tryz.func50, Tryz.ntmps50
 go_wp2
 go_loopg [5] k (fun kq v5 w' => ∃ (x5_1 : Int), v5 = .int .i64 x5_1 ∧ Aside0 (spec_l5Asked.l0 kq l0 l1 x5_1 = some r) ∧ Aside0 (kq ≤ k) ∧ Aside0 (Below w.heap.size w w'))
 case atStart => exact ⟨(0), z2_, H', ⟨Nat.le_refl _⟩, ⟨z5_⟩⟩
 case round =>
  clear H'
  obtain ⟨x5_1, rfl, HA, HK1, HB⟩ := hrel
  cases gk with
  | zero => exact absurd HA.out (by simp [spec_l5Asked.l0])
  | succ k1 =>
   have H := HA.out; clear HA
   simp only [spec_l5Asked.l0] at H
   by_cases c3 : x5_1 < (l1.length : Int)
   ·rw [if_pos c3] at H
    have c3b0 : decide (x5_1 < (l1.length : Int)) = true := decide_eq_true c3
    clear c3
    by_cases c4 : 0 ≤ x5_1
    ·rw [if_pos c4] at H
     have c4b0 : decide (0 ≤ x5_1) = true := decide_eq_true c4
     clear c4; replace H := Option.bind_eq_some_iff.mp H; obtain ⟨t378, A50, H⟩ := H
     replace H : (if t378 < 0 then (some false) else (spec_l5Asked.l0 k1 l0 l1 (wrap64 (x5_1 + 1)))) = some r := H
     have A5 := Aside0.mk A50; clear A50
     by_cases c6 : t378 < 0
     ·rw [if_pos c6] at H
      have c6b0 : decide (t378 < 0) = true := decide_eq_true c6
      clear c6
      obtain rfl := Option.some.inj H
      have p377 : 0 ≤ (x5_1 : Int) := od_
      have q377 : x5_1 < (l1.length : Int) := od_
      obtain ⟨ad377, e377, hx377_0⟩ := Kd.at_int HR1.out x5_1 p377 q377
      cases e377
      replace hx377_0 := (HB.out.cell (World.block_lt_of_cell? w _ hx377_0)).trans hx377_0
      replace p377 := eq_true p377
      replace q377 := eq_true q377
      go_wp2_with (first | ((with_reducible refine gate_callee (f := 67) rfl ?_); refine goesL_ (some 17) rfl rfl Tryz.func67 (by kernel_rfl) rfl #[.slice A0 l0.length c0, .int .i64 (rd l1 x5_1)] rfl gl_ ?_; (with_reducible refine (spec_l5Find.calls k1 _ _ l0 (rd l1 x5_1) t378 _ ?side1 ?side2 A5.out).mono ?_); (case side1 => exact z14_); (case side2 => exact HC0.out); rintro e w' ⟨rfl, ⟨nd, rfl⟩⟩; refine ⟨_, rfl, ?_⟩))
      go_ret
      exact ⟨z6_, z5_⟩
     ·rw [if_neg c6] at H
      have c6b0 : decide (t378 < 0) = false := decide_eq_false c6
      clear c6
      have H' := Aside0.mk H
      clear H
      have p377 : 0 ≤ (x5_1 : Int) := od_
      have q377 : x5_1 < (l1.length : Int) := od_
      obtain ⟨ad377, e377, hx377_0⟩ := Kd.at_int HR1.out x5_1 p377 q377
      cases e377
      replace hx377_0 := (HB.out.cell (World.block_lt_of_cell? w _ hx377_0)).trans hx377_0
      replace p377 := eq_true p377
      replace q377 := eq_true q377
      go_wp2_with (first | ((with_reducible refine gate_callee (f := 67) rfl ?_); refine goesL_ (some 17) rfl rfl Tryz.func67 (by kernel_rfl) rfl #[.slice A0 l0.length c0, .int .i64 (rd l1 x5_1)] rfl gl_ ?_; (with_reducible refine (spec_l5Find.calls k1 _ _ l0 (rd l1 x5_1) t378 _ ?side1 ?side2 A5.out).mono ?_); (case side1 => exact z14_); (case side2 => exact HC0.out); rintro e w' ⟨rfl, ⟨nd, rfl⟩⟩; refine ⟨_, rfl, ?_⟩))
      go_roundg k1
      case measure => have := HK1.out; omega
      case rel => exact ⟨(wrap64 (x5_1 + 1)), z2_, H', ⟨by have := HK1.out; omega⟩, ⟨z5_⟩⟩
    ·rw [if_neg c4] at H
     exact absurd H (by simp)
   ·rw [if_neg c3] at H
    have c3b0 : decide (x5_1 < (l1.length : Int)) = false := decide_eq_false c3
    clear c3; replace H := Option.bind_eq_some_iff.mp H; obtain ⟨t379, A70, H⟩ := H
    replace H : (if t379 = true then ((spec_l1Rising.f k1 l1 1 99).bind fun t380 => (some t380)) else (some false)) = some r := H
    have A7 := Aside0.mk A70; clear A70
    by_cases c8 : t379 = true
    ·subst c8
     have H1 : ((spec_l1Rising.f k1 l1 1 99).bind fun t380 => (some t380)) = some r := by rw [if_pos rfl] at H; exact H
     clear H; have H := H1; clear H1; replace H := Option.bind_eq_some_iff.mp H; obtain ⟨t380, A90, H⟩ := H
     replace H : (some t380) = some r := H
     have A9 := Aside0.mk A90; clear A90
     obtain rfl := Option.some.inj H
     go_wp2_with (first | ((with_reducible refine gate_callee (f := 38) rfl ?_); refine goesL_ (some 20) rfl rfl Tryz.func38 (by kernel_rfl) rfl #[.slice A0 l0.length c0] rfl gl_ ?_; (with_reducible refine (spec_l5Good.calls k1 _ _ l0 true _ ?side1 ?side2 A7.out).mono ?_); (case side1 => exact z14_); (case side2 => exact HC0.out); rintro e w10 ⟨rfl, hb⟩; refine ⟨_, rfl, ?_⟩; have n0_ := Aside0.mk (below_step bx_ hb); clear HB; have HB := n0_; clear n0_; (try clear hb); (try clear hk)) | (go_at_call 72; (with_reducible refine (spec_l1Rising.calls k1 _ _ l1 1 99 t380 _ ?side1 ?side2 A9.out).mono ?_); (case side1 => exact z37_); (case side2 => exact HC1.out); rintro e w' ⟨rfl, ⟨nd, rfl⟩⟩))
     go_ret
     exact ⟨z6_, z5_⟩
    ·replace c8 := Bool.eq_false_iff.mpr c8
     subst c8
     have H1 : (some false) = some r := by rw [if_neg (show ¬ (false = true) by decide)] at H; exact H
     clear H; have H := H1; clear H1
     obtain rfl := Option.some.inj H
     go_wp2_with (first | ((with_reducible refine gate_callee (f := 38) rfl ?_); refine goesL_ (some 20) rfl rfl Tryz.func38 (by kernel_rfl) rfl #[.slice A0 l0.length c0] rfl gl_ ?_; (with_reducible refine (spec_l5Good.calls k1 _ _ l0 false _ ?side1 ?side2 A7.out).mono ?_); (case side1 => exact z14_); (case side2 => exact HC0.out); rintro e w11 ⟨rfl, hb⟩; refine ⟨_, rfl, ?_⟩; have n0_ := Aside0.mk (below_step bx_ hb); clear HB; have HB := n0_; clear n0_; (try clear hb); (try clear hk)))
     go_ret
     exact ⟨z6_, z5_⟩

/-! ### spec_l1Has: function 51 -/
def spec_l1Has.l0 : Nat → List Int → Int → Int → Option (Bool)
 | 0, _, _, _ => none
 | k + 1, x0, x1, x5 => if x5 < (x0.length : Int) then (if 0 ≤ x5 then (if (rd x0 x5) = x1 then (some true) else (spec_l1Has.l0 k x0 x1 (wrap64 (x5 + 1)))) else (none)) else (some false)
def spec_l1Has.f (k : Nat) (l0 : List Int) (a1 : Int) : Option (Bool) := spec_l1Has.l0 k l0 a1 0
set_option maxHeartbeats 8000000 in
set_option maxRecDepth 100000 in
theorem spec_l1Has.calls (k : Nat) (A0 : Option Addr) (c0 : Nat) (l0 : List Int) (a1 : Int) (r : Bool) (w : World) (hr0 : Kd.C (Kd.int .i64) w A0 l0.length l0) (hc0 : l0.length ≤ c0) (h : spec_l1Has.f k l0 a1 = some r) :
  Calls Tryz.prog 51 #[.slice A0 l0.length c0, .int .i64 a1] w fun e w' => e = .returned (.bool r) ∧ Drawn0 w w' := by
 have HR0 := Aside0.mk hr0; have HC0 := Aside0.mk hc0; clear hr0 hc0
 have H : (spec_l1Has.l0 k l0 a1 0) = some r := h
 clear h
 have H' := Aside0.mk H
 clear H
 go_enter Tryz.func51, Tryz.ntmps51
 go_wp2
 go_loopg [5] k (fun kq v5 w' => ∃ (x5_1 : Int), v5 = .int .i64 x5_1 ∧ Aside0 (spec_l1Has.l0 kq l0 a1 x5_1 = some r) ∧ Aside0 (kq ≤ k) ∧ Drawn0 w w')
 case atStart => exact ⟨(0), z2_, H', ⟨Nat.le_refl _⟩, z7_⟩
 case round =>
  clear H'
  obtain ⟨x5_1, rfl, HA, HK1, ⟨m1, rfl⟩⟩ := hrel
  cases gk with
  | zero => exact absurd HA.out (by simp [spec_l1Has.l0])
  | succ k1 =>
   have H := HA.out; clear HA
   simp only [spec_l1Has.l0] at H
   by_cases c3 : x5_1 < (l0.length : Int)
   ·rw [if_pos c3] at H
    have c3b0 : decide (x5_1 < (l0.length : Int)) = true := decide_eq_true c3
    clear c3
    by_cases c4 : 0 ≤ x5_1
    ·rw [if_pos c4] at H
     have c4b0 : decide (0 ≤ x5_1) = true := decide_eq_true c4
     clear c4
     by_cases c5 : (rd l0 x5_1) = a1
     ·rw [if_pos c5] at H
      have c5b0 : ((rd l0 x5_1) == a1) = true := beq_iff_eq.mpr c5
      have c5b1 : ((rd l0 x5_1) != a1) = false := bne_eq_false_iff_eq.mpr c5
      clear c5
      obtain rfl := Option.some.inj H
      have p381 : 0 ≤ (x5_1 : Int) := od_
      have q381 : x5_1 < (l0.length : Int) := od_
      obtain ⟨ad381, e381, hx381_0⟩ := Kd.at_int HR0.out x5_1 p381 q381
      cases e381
      replace p381 := eq_true p381
      replace q381 := eq_true q381
      go_wp2
      go_ret
      exact ⟨z2_, z7_⟩
     ·rw [if_neg c5] at H
      have c5b0 : ((rd l0 x5_1) == a1) = false := beq_eq_false_iff_ne.mpr c5
      have c5b1 : ((rd l0 x5_1) != a1) = true := bne_iff_ne.mpr c5
      have H' := Aside0.mk H
      clear H
      have p381 : 0 ≤ (x5_1 : Int) := od_
      have q381 : x5_1 < (l0.length : Int) := od_
      obtain ⟨ad381, e381, hx381_0⟩ := Kd.at_int HR0.out x5_1 p381 q381
      cases e381
      replace p381 := eq_true p381
      replace q381 := eq_true q381
      go_wp2
      go_roundg k1
      case measure => have := HK1.out; omega
      case rel => exact ⟨(wrap64 (x5_1 + 1)), z2_, H', ⟨by have := HK1.out; omega⟩, z7_⟩
    ·rw [if_neg c4] at H
     exact absurd H (by simp)
   ·rw [if_neg c3] at H
    have c3b0 : decide (x5_1 < (l0.length : Int)) = false := decide_eq_false c3
    clear c3
    obtain rfl := Option.some.inj H
    go_wp2
    go_ret
    exact ⟨z2_, z7_⟩

end Go.Proofs.YtafdklajmklmkaaGreatDoor.XFnTeams
