/- Contracts of the functions that the law FnTeamCounts comes to: each is told as a plain function of its arguments, and the machine's call does what that function says; no condition. Written by programs (print.py, xprint.py); Lean checks it. -/
import Derived.Test.YtafdklajmklmkaaGreatDoorXFnTeamCountsx0
import Derived.Test.YtafdklajmklmkaaGreatDoorXFnTeamCountsx10
import Derived.Test.YtafdklajmklmkaaGreatDoorXFnTeamCountsx11
namespace Go.Proofs.YtafdklajmklmkaaGreatDoor.XFnTeamCounts
open Go.RowKit Go.Proofs.YtafdklajmklmkaaGreatDoorW.PrintWords Go.Proofs.YtafdklajmklmkaaGreatDoorW.PrintLast Go.Proofs.YtafdklajmklmkaaGreatDoorW.PrintMore
open List renaming setIfInBounds_toArray → zA, set_cons_zero → zB, set_cons_succ → zC
attribute [local go_sem] max2_int min2_int max_two min_two max_three min_three max_four min_four   -- for this text's walks alone
set_option linter.unusedVariables false
set_option linter.unusedSimpArgs false

/-! ### spec_l5Pairs: function 81 -/
def spec_l5Pairs.l0 : Nat → List (S41) → Int → Int → Int → Int → Int → Option (Int × Int × Int)
 | 0, _, _, _, _, _, _ => none
 | k + 1, x0, x1, x7, x8, x9, x10 => if x10 < (x0.length : Int) then (if 0 ≤ (IntKind.u64.wrap (x10)) then (if (Go.bits .and .i64 (shr .i64 x1 (IntKind.u64.wrap (x10))) 1) = 0 then (spec_l5Pairs.l0 k x0 x1 x7 x8 x9 (wrap64 (x10 + 1))) else (if 0 ≤ x10 then (if (Go.bits .and .i64 ((rd_T41 x0 x10).f2) 3) = 1 then (spec_l5Pairs.l0 k x0 x1 (wrap64 (x7 + 1)) x8 x9 (wrap64 (x10 + 1))) else (if (Go.bits .and .i64 ((rd_T41 x0 x10).f2) 3) = 2 then (spec_l5Pairs.l0 k x0 x1 x7 (wrap64 (x8 + 1)) x9 (wrap64 (x10 + 1))) else (if (Go.bits .and .i64 ((rd_T41 x0 x10).f2) 3) = 3 then (spec_l5Pairs.l0 k x0 x1 x7 x8 (wrap64 (x9 + 1)) (wrap64 (x10 + 1))) else (spec_l5Pairs.l0 k x0 x1 x7 x8 x9 (wrap64 (x10 + 1)))))) else (none))) else (none)) else (some (x7, x8, x9))
def spec_l5Pairs.f (k : Nat) (l0 : List (S41)) (a1 : Int) : Option (Int × Int × Int) := spec_l5Pairs.l0 k l0 a1 0 0 0 0
set_option maxHeartbeats 8000000 in
set_option maxRecDepth 100000 in
theorem spec_l5Pairs.calls (k : Nat) (A0 : Option Addr) (c0 : Nat) (l0 : List (S41)) (a1 : Int) (r1 : Int) (r2 : Int) (r3 : Int) (w : World) (hr0 : Kd.C k41 w A0 l0.length l0) (hc0 : l0.length ≤ c0) (h : spec_l5Pairs.f k l0 a1 = some (r1, r2, r3)) :
  Calls Tryz.prog 81 #[.slice A0 l0.length c0, .int .i64 a1] w fun e w' => e = .returned (.tuple #[.int .i64 r1, .int .i64 r2, .int .i64 r3]) ∧ Drawn0 w w' := by
 have HR0 := Aside0.mk hr0; have HC0 := Aside0.mk hc0; clear hr0 hc0
 have H : (spec_l5Pairs.l0 k l0 a1 0 0 0 0) = some (r1, r2, r3) := h
 clear h
 have H' := Aside0.mk H
 clear H
 go_enter Tryz.func81, Tryz.ntmps81
 go_wp2
 go_loopg [7, 8, 9, 10] k (fun kq v7 v8 v9 v10 w' => ∃ (x7_1 : Int) (x8_1 : Int) (x9_1 : Int) (x10_1 : Int), v7 = .int .i64 x7_1 ∧ v8 = .int .i64 x8_1 ∧ v9 = .int .i64 x9_1 ∧ v10 = .int .i64 x10_1 ∧ Aside0 (spec_l5Pairs.l0 kq l0 a1 x7_1 x8_1 x9_1 x10_1 = some (r1, r2, r3)) ∧ Aside0 (kq ≤ k) ∧ Drawn0 w w')
 case atStart => exact ⟨(0), (0), (0), (0), z2_, z2_, z2_, z2_, H', ⟨Nat.le_refl _⟩, z6_⟩
 case round =>
  clear H'
  obtain ⟨x7_1, x8_1, x9_1, x10_1, rfl, rfl, rfl, rfl, HA, HK1, ⟨m1, rfl⟩⟩ := hrel
  cases gk with
  | zero => exact absurd HA.out (by simp [spec_l5Pairs.l0])
  | succ k1 =>
   have H := HA.out; clear HA
   simp only [spec_l5Pairs.l0] at H
   by_cases c3 : x10_1 < (l0.length : Int)
   ·rw [if_pos c3] at H
    have c3b0 : decide (x10_1 < (l0.length : Int)) = true := decide_eq_true c3
    clear c3
    obtain ⟨ji4, hji4⟩ : ∃ j_ : Int, (IntKind.u64.wrap (x10_1)) = j_ := ⟨_, rfl⟩
    replace H : (if 0 ≤ (ji4) then (if (Go.bits .and .i64 (shr .i64 a1 (ji4)) 1) = 0 then (spec_l5Pairs.l0 k1 l0 a1 x7_1 x8_1 x9_1 (wrap64 (x10_1 + 1))) else (if 0 ≤ x10_1 then (if (Go.bits .and .i64 ((rd_T41 l0 x10_1).f2) 3) = 1 then (spec_l5Pairs.l0 k1 l0 a1 (wrap64 (x7_1 + 1)) x8_1 x9_1 (wrap64 (x10_1 + 1))) else (if (Go.bits .and .i64 ((rd_T41 l0 x10_1).f2) 3) = 2 then (spec_l5Pairs.l0 k1 l0 a1 x7_1 (wrap64 (x8_1 + 1)) x9_1 (wrap64 (x10_1 + 1))) else (if (Go.bits .and .i64 ((rd_T41 l0 x10_1).f2) 3) = 3 then (spec_l5Pairs.l0 k1 l0 a1 x7_1 x8_1 (wrap64 (x9_1 + 1)) (wrap64 (x10_1 + 1))) else (spec_l5Pairs.l0 k1 l0 a1 x7_1 x8_1 x9_1 (wrap64 (x10_1 + 1)))))) else (none))) else (none)) = some (r1, r2, r3) := by first | (rw [hji4] at H; exact H) | (simp only [hji4] at H ⊢; exact H)
    by_cases c5 : 0 ≤ (ji4)
    ·rw [if_pos c5] at H
     have c5b0 := eq_true c5
     have c5b1 : decide (0 ≤ (ji4)) = true := decide_eq_true c5
     clear c5
     obtain ⟨ji6, hji6⟩ : ∃ j_ : Int, (shr .i64 a1 (ji4)) = j_ := ⟨_, rfl⟩
     replace H : (if (Go.bits .and .i64 (ji6) 1) = 0 then (spec_l5Pairs.l0 k1 l0 a1 x7_1 x8_1 x9_1 (wrap64 (x10_1 + 1))) else (if 0 ≤ x10_1 then (if (Go.bits .and .i64 ((rd_T41 l0 x10_1).f2) 3) = 1 then (spec_l5Pairs.l0 k1 l0 a1 (wrap64 (x7_1 + 1)) x8_1 x9_1 (wrap64 (x10_1 + 1))) else (if (Go.bits .and .i64 ((rd_T41 l0 x10_1).f2) 3) = 2 then (spec_l5Pairs.l0 k1 l0 a1 x7_1 (wrap64 (x8_1 + 1)) x9_1 (wrap64 (x10_1 + 1))) else (if (Go.bits .and .i64 ((rd_T41 l0 x10_1).f2) 3) = 3 then (spec_l5Pairs.l0 k1 l0 a1 x7_1 x8_1 (wrap64 (x9_1 + 1)) (wrap64 (x10_1 + 1))) else (spec_l5Pairs.l0 k1 l0 a1 x7_1 x8_1 x9_1 (wrap64 (x10_1 + 1)))))) else (none))) = some (r1, r2, r3) := by first | (rw [hji6] at H; exact H) | (simp only [hji6] at H ⊢; exact H)
     have hji6_ : (a1 / 2 ^ min (ji4).toNat 64) = ji6 := hji6
     have hji6z : (ji4) ≤ 64 → (a1 / 2 ^ (ji4).toNat) = ji6 := shr_small hji6
     by_cases c7 : (Go.bits .and .i64 (ji6) 1) = 0
     ·rw [if_pos c7] at H
      have c7b0 : ((Go.bits .and .i64 (ji6) 1) == 0) = true := beq_iff_eq.mpr c7
      have c7b1 : ((Go.bits .and .i64 (ji6) 1) != 0) = false := bne_eq_false_iff_eq.mpr c7
      clear c7
      have H' := Aside0.mk H
      clear H
      go_wp2
      go_roundg k1
      case measure => have := HK1.out; omega
      case rel => exact ⟨(x7_1), (x8_1), (x9_1), (wrap64 (x10_1 + 1)), z2_, z2_, z2_, z2_, H', ⟨by have := HK1.out; omega⟩, z6_⟩
     ·rw [if_neg c7] at H
      have c7b0 : ((Go.bits .and .i64 (ji6) 1) == 0) = false := beq_eq_false_iff_ne.mpr c7
      have c7b1 : ((Go.bits .and .i64 (ji6) 1) != 0) = true := bne_iff_ne.mpr c7
      by_cases c8 : 0 ≤ x10_1
      ·rw [if_pos c8] at H
       have c8b0 : decide (0 ≤ x10_1) = true := decide_eq_true c8
       clear c8
       by_cases c9 : (Go.bits .and .i64 ((rd_T41 l0 x10_1).f2) 3) = 1
       ·rw [if_pos c9] at H
        have c9b0 : ((Go.bits .and .i64 ((rd_T41 l0 x10_1).f2) 3) == 1) = true := beq_iff_eq.mpr c9
        have c9b1 : ((Go.bits .and .i64 ((rd_T41 l0 x10_1).f2) 3) != 1) = false := bne_eq_false_iff_eq.mpr c9
        clear c9
        have H' := Aside0.mk H
        clear H
        have p323 : 0 ≤ (x10_1 : Int) := od_
        have q323 : x10_1 < (l0.length : Int) := od_
        obtain ⟨ad323, e323, hx323_0, hx323_1, hx323_2, hx323_3⟩ := at_T41 HR0.out x10_1 p323 q323
        cases e323
        replace p323 := eq_true p323
        replace q323 := eq_true q323
        go_wp2
        go_roundg k1
        case measure => have := HK1.out; omega
        case rel => exact ⟨(wrap64 (x7_1 + 1)), (x8_1), (x9_1), (wrap64 (x10_1 + 1)), z2_, z2_, z2_, z2_, H', ⟨by have := HK1.out; omega⟩, z6_⟩
       ·rw [if_neg c9] at H
        have c9b0 : ((Go.bits .and .i64 ((rd_T41 l0 x10_1).f2) 3) == 1) = false := beq_eq_false_iff_ne.mpr c9
        have c9b1 : ((Go.bits .and .i64 ((rd_T41 l0 x10_1).f2) 3) != 1) = true := bne_iff_ne.mpr c9
        by_cases c10 : (Go.bits .and .i64 ((rd_T41 l0 x10_1).f2) 3) = 2
        ·rw [if_pos c10] at H
         have c10b0 : ((Go.bits .and .i64 ((rd_T41 l0 x10_1).f2) 3) == 2) = true := beq_iff_eq.mpr c10
         have c10b1 : ((Go.bits .and .i64 ((rd_T41 l0 x10_1).f2) 3) != 2) = false := bne_eq_false_iff_eq.mpr c10
         clear c10
         have H' := Aside0.mk H
         clear H
         have p323 : 0 ≤ (x10_1 : Int) := od_
         have q323 : x10_1 < (l0.length : Int) := od_
         obtain ⟨ad323, e323, hx323_0, hx323_1, hx323_2, hx323_3⟩ := at_T41 HR0.out x10_1 p323 q323
         cases e323
         replace p323 := eq_true p323
         replace q323 := eq_true q323
         go_wp2
         go_roundg k1
         case measure => have := HK1.out; omega
         case rel => exact ⟨(x7_1), (wrap64 (x8_1 + 1)), (x9_1), (wrap64 (x10_1 + 1)), z2_, z2_, z2_, z2_, H', ⟨by have := HK1.out; omega⟩, z6_⟩
        ·rw [if_neg c10] at H
         have c10b0 : ((Go.bits .and .i64 ((rd_T41 l0 x10_1).f2) 3) == 2) = false := beq_eq_false_iff_ne.mpr c10
         have c10b1 : ((Go.bits .and .i64 ((rd_T41 l0 x10_1).f2) 3) != 2) = true := bne_iff_ne.mpr c10
         by_cases c11 : (Go.bits .and .i64 ((rd_T41 l0 x10_1).f2) 3) = 3
         ·rw [if_pos c11] at H
          have c11b0 : ((Go.bits .and .i64 ((rd_T41 l0 x10_1).f2) 3) == 3) = true := beq_iff_eq.mpr c11
          have c11b1 : ((Go.bits .and .i64 ((rd_T41 l0 x10_1).f2) 3) != 3) = false := bne_eq_false_iff_eq.mpr c11
          clear c11
          have H' := Aside0.mk H
          clear H
          have p323 : 0 ≤ (x10_1 : Int) := od_
          have q323 : x10_1 < (l0.length : Int) := od_
          obtain ⟨ad323, e323, hx323_0, hx323_1, hx323_2, hx323_3⟩ := at_T41 HR0.out x10_1 p323 q323
          cases e323
          replace p323 := eq_true p323
          replace q323 := eq_true q323
          go_wp2
          go_roundg k1
          case measure => have := HK1.out; omega
          case rel => exact ⟨(x7_1), (x8_1), (wrap64 (x9_1 + 1)), (wrap64 (x10_1 + 1)), z2_, z2_, z2_, z2_, H', ⟨by have := HK1.out; omega⟩, z6_⟩
         ·rw [if_neg c11] at H
          have c11b0 : ((Go.bits .and .i64 ((rd_T41 l0 x10_1).f2) 3) == 3) = false := beq_eq_false_iff_ne.mpr c11
          have c11b1 : ((Go.bits .and .i64 ((rd_T41 l0 x10_1).f2) 3) != 3) = true := bne_iff_ne.mpr c11
          have H' := Aside0.mk H
          clear H
          have p323 : 0 ≤ (x10_1 : Int) := od_
          have q323 : x10_1 < (l0.length : Int) := od_
          obtain ⟨ad323, e323, hx323_0, hx323_1, hx323_2, hx323_3⟩ := at_T41 HR0.out x10_1 p323 q323
          cases e323
          replace p323 := eq_true p323
          replace q323 := eq_true q323
          go_wp2
          go_roundg k1
          case measure => have := HK1.out; omega
          case rel => exact ⟨(x7_1), (x8_1), (x9_1), (wrap64 (x10_1 + 1)), z2_, z2_, z2_, z2_, H', ⟨by have := HK1.out; omega⟩, z6_⟩
      ·rw [if_neg c8] at H
       exact absurd H (by simp)
    ·rw [if_neg c5] at H
     exact absurd H (by simp)
   ·rw [if_neg c3] at H
    have c3b0 : decide (x10_1 < (l0.length : Int)) = false := decide_eq_false c3
    clear c3
    simp only [Option.some.injEq, Prod.mk.injEq] at H
    obtain ⟨rfl, rfl, rfl⟩ := H
    go_wp2
    go_ret3
    exact ⟨z2_, z6_⟩

/-! ### spec_l1Least: function 82 -/
def spec_l1Least.f (a0 : Int) (a1 : Int) : Option (Int) := if a0 < a1 then (some a0) else (some a1)
set_option maxHeartbeats 8000000 in
set_option maxRecDepth 100000 in
theorem spec_l1Least.calls (a0 : Int) (a1 : Int) (r : Int) (w : World) (h : spec_l1Least.f a0 a1 = some r) :
  Calls Tryz.prog 82 #[.int .i64 a0, .int .i64 a1] w fun e w' => e = .returned (.int .i64 r) ∧ Drawn0 w w' := by
 have H : (if a0 < a1 then (some a0) else (some a1)) = some r := h
 clear h
 by_cases c3 : a0 < a1
 ·rw [if_pos c3] at H
  have c3b0 : decide (a0 < a1) = true := decide_eq_true c3
  clear c3
  obtain rfl := Option.some.inj H
  go_enter Tryz.func82, Tryz.ntmps82
  go_wp2
  go_ret
  exact ⟨z2_, z6_⟩
 ·rw [if_neg c3] at H
  have c3b0 : decide (a0 < a1) = false := decide_eq_false c3
  clear c3
  obtain rfl := Option.some.inj H
  go_enter Tryz.func82, Tryz.ntmps82
  go_wp2
  go_ret
  exact ⟨z2_, z6_⟩

/-! ### spec_l1Most: function 83 -/
def spec_l1Most.f (a0 : Int) (a1 : Int) : Option (Int) := if a0 > a1 then (some a0) else (some a1)
set_option maxHeartbeats 8000000 in
set_option maxRecDepth 100000 in
theorem spec_l1Most.calls (a0 : Int) (a1 : Int) (r : Int) (w : World) (h : spec_l1Most.f a0 a1 = some r) :
  Calls Tryz.prog 83 #[.int .i64 a0, .int .i64 a1] w fun e w' => e = .returned (.int .i64 r) ∧ Drawn0 w w' := by
 have H : (if a0 > a1 then (some a0) else (some a1)) = some r := h
 clear h
 by_cases c3 : a0 > a1
 ·rw [if_pos c3] at H
  have c3b0 : decide (a1 < a0) = true := decide_eq_true c3
  clear c3
  obtain rfl := Option.some.inj H
  go_enter Tryz.func83, Tryz.ntmps83
  go_wp2
  go_ret
  exact ⟨z2_, z6_⟩
 ·rw [if_neg c3] at H
  have c3b0 : decide (a1 < a0) = false := decide_eq_false c3
  clear c3
  obtain rfl := Option.some.inj H
  go_enter Tryz.func83, Tryz.ntmps83
  go_wp2
  go_ret
  exact ⟨z2_, z6_⟩

/-! ### spec_l5Most: function 61 -/
def spec_l5Most.f (k : Nat) (l0 : List (S41)) (a1 : Int) : Option (Int) := (spec_l5Pairs.f k l0 a1).bind fun bt324 => ((spec_l1Least.f bt324.1 bt324.2.1).bind fun t327 => ((spec_l1Most.f bt324.1 bt324.2.1).bind fun t328 => ((spec_l1Least.f (wrap64 (t328 - t327)) bt324.2.2).bind fun t329 => ((spec_l1Least.f 3 (wrap64 ((wrap64 (t327 + t329)) + (wrap64 (Int.tdiv (wrap64 (bt324.2.2 - t329)) 2))))).bind fun t330 => (some t330)))))
set_option maxHeartbeats 8000000 in
set_option maxRecDepth 100000 in
theorem spec_l5Most.calls (k : Nat) (A0 : Option Addr) (c0 : Nat) (l0 : List (S41)) (a1 : Int) (r : Int) (w : World) (hr0 : Kd.C k41 w A0 l0.length l0) (hc0 : l0.length ≤ c0) (h : spec_l5Most.f k l0 a1 = some r) :
  Calls Tryz.prog 61 #[.slice A0 l0.length c0, .int .i64 a1] w fun e w' => e = .returned (.int .i64 r) ∧ Drawn0 w w' := by
 have HR0 := Aside0.mk hr0; have HC0 := Aside0.mk hc0; clear hr0 hc0
 have H : ((spec_l5Pairs.f k l0 a1).bind fun bt324 => ((spec_l1Least.f bt324.1 bt324.2.1).bind fun t327 => ((spec_l1Most.f bt324.1 bt324.2.1).bind fun t328 => ((spec_l1Least.f (wrap64 (t328 - t327)) bt324.2.2).bind fun t329 => ((spec_l1Least.f 3 (wrap64 ((wrap64 (t327 + t329)) + (wrap64 (Int.tdiv (wrap64 (bt324.2.2 - t329)) 2))))).bind fun t330 => (some t330)))))) = some r := h
 clear h; replace H := Option.bind_eq_some_iff.mp H; obtain ⟨⟨t324, t325, t326⟩, A30, H⟩ := H
 replace H : ((spec_l1Least.f t324 t325).bind fun t327 => ((spec_l1Most.f t324 t325).bind fun t328 => ((spec_l1Least.f (wrap64 (t328 - t327)) t326).bind fun t329 => ((spec_l1Least.f 3 (wrap64 ((wrap64 (t327 + t329)) + (wrap64 (Int.tdiv (wrap64 (t326 - t329)) 2))))).bind fun t330 => (some t330))))) = some r := H
 have A3 := Aside0.mk A30; clear A30; replace H := Option.bind_eq_some_iff.mp H; obtain ⟨t327, A40, H⟩ := H
 replace H : ((spec_l1Most.f t324 t325).bind fun t328 => ((spec_l1Least.f (wrap64 (t328 - t327)) t326).bind fun t329 => ((spec_l1Least.f 3 (wrap64 ((wrap64 (t327 + t329)) + (wrap64 (Int.tdiv (wrap64 (t326 - t329)) 2))))).bind fun t330 => (some t330)))) = some r := H
 have A4 := Aside0.mk A40; clear A40; replace H := Option.bind_eq_some_iff.mp H; obtain ⟨t328, A50, H⟩ := H
 replace H : ((spec_l1Least.f (wrap64 (t328 - t327)) t326).bind fun t329 => ((spec_l1Least.f 3 (wrap64 ((wrap64 (t327 + t329)) + (wrap64 (Int.tdiv (wrap64 (t326 - t329)) 2))))).bind fun t330 => (some t330))) = some r := H
 have A5 := Aside0.mk A50; clear A50; replace H := Option.bind_eq_some_iff.mp H; obtain ⟨t329, A60, H⟩ := H
 replace H : ((spec_l1Least.f 3 (wrap64 ((wrap64 (t327 + t329)) + (wrap64 (Int.tdiv (wrap64 (t326 - t329)) 2))))).bind fun t330 => (some t330)) = some r := H
 have A6 := Aside0.mk A60; clear A60; replace H := Option.bind_eq_some_iff.mp H; obtain ⟨t330, A70, H⟩ := H
 replace H : (some t330) = some r := H
 have A7 := Aside0.mk A70; clear A70
 obtain rfl := Option.some.inj H
 go_enter Tryz.func61, Tryz.ntmps61
 go_wp2_with (first | ((with_reducible refine gate_callee (f := 81) rfl ?_); refine goesL_ (some 14) rfl rfl Tryz.func81 (by kernel_rfl) rfl #[.slice A0 l0.length c0, .int .i64 a1] rfl gl_ ?_; (with_reducible refine (spec_l5Pairs.calls k _ _ l0 a1 t324 t325 t326 _ ?side1 ?side2 A3.out).mono ?_); (case side1 => exact z12_); (case side2 => exact HC0.out); rintro e w' ⟨rfl, ⟨nd, rfl⟩⟩; refine ⟨_, rfl, ?_⟩) | ((with_reducible refine gate_callee (f := 82) rfl ?_); refine goesL_ (some 20) rfl rfl Tryz.func82 (by kernel_rfl) rfl #[.int .i64 t324, .int .i64 t325] rfl gl_ ?_; (with_reducible refine (spec_l1Least.calls t324 t325 t327 _ A4.out).mono ?_); rintro e w' ⟨rfl, ⟨nd, rfl⟩⟩; refine ⟨_, rfl, ?_⟩) | ((with_reducible refine gate_callee (f := 83) rfl ?_); refine goesL_ (some 23) rfl rfl Tryz.func83 (by kernel_rfl) rfl #[.int .i64 t324, .int .i64 t325] rfl gl_ ?_; (with_reducible refine (spec_l1Most.calls t324 t325 t328 _ A5.out).mono ?_); rintro e w' ⟨rfl, ⟨nd, rfl⟩⟩; refine ⟨_, rfl, ?_⟩) | ((with_reducible refine gate_callee (f := 82) rfl ?_); refine goesL_ (some 28) rfl rfl Tryz.func82 (by kernel_rfl) rfl #[.int .i64 (wrap64 (t328 - t327)), .int .i64 t326] rfl gl_ ?_; (with_reducible refine (spec_l1Least.calls (wrap64 (t328 - t327)) t326 t329 _ A6.out).mono ?_); rintro e w' ⟨rfl, ⟨nd, rfl⟩⟩; refine ⟨_, rfl, ?_⟩) | ((with_reducible refine gate_callee (f := 82) rfl ?_); refine goesL_ (some 37) rfl rfl Tryz.func82 (by kernel_rfl) rfl #[.int .i64 3, .int .i64 (wrap64 ((wrap64 (t327 + t329)) + (wrap64 (Int.tdiv (wrap64 (t326 - t329)) 2))))] rfl gl_ ?_; (with_reducible refine (spec_l1Least.calls 3 (wrap64 ((wrap64 (t327 + t329)) + (wrap64 (Int.tdiv (wrap64 (t326 - t329)) 2)))) t330 _ A7.out).mono ?_); rintro e w' ⟨rfl, ⟨nd, rfl⟩⟩; refine ⟨_, rfl, ?_⟩))
 go_ret
 exact ⟨z2_, z6_⟩

/-! ### spec_SplitTeams: function 25 -/
mutual
def spec_SplitTeams.l0 : Nat → List (S41) → List (List Int) → Int → Int → Option ((List (List Int)) × Bool)
 | 0, _, _, _, _ => none
 | k + 1, x0, x4, x5, x6 => if x6 > 0 then (spec_SplitTeams.l1 k x0 x4 x5 x6 (([] : List Int)) 0 1) else (some (x4, true))
def spec_SplitTeams.l1 : Nat → List (S41) → List (List Int) → Int → Int → List Int → Int → Int → Option ((List (List Int)) × Bool)
 | 0, _, _, _, _, _, _, _ => none
 | k + 1, x0, x4, x5, x6, x7, x8, x9 => if x9 ≤ x5 then ((spec_l5Members.f k x0 x9).bind fun t342 => (if (Go.bits .and .i64 x9 x5) = x9 then ((spec_l5Team.f k x0 t342).bind fun t345 => (if t345 = true then ((spec_l5Most.f k x0 (wrap64 (x5 - x9))).bind fun t346 => (spec_SplitTeams.j2 k x0 x4 x5 x6 x7 x8 x9 t342 (decide (t346 < (wrap64 (x6 - 1)))))) else (spec_SplitTeams.j2 k x0 x4 x5 x6 x7 x8 x9 t342 true))) else (spec_SplitTeams.j2 k x0 x4 x5 x6 x7 x8 x9 t342 true))) else (if x4.length < 5864062014805 then (spec_SplitTeams.l0 k x0 (x4 ++ [x7]) (wrap64 (x5 - x8)) (wrap64 (x6 - 1))) else (none))
def spec_SplitTeams.j2 : Nat → List (S41) → List (List Int) → Int → Int → List Int → Int → Int → List Int → Bool → Option ((List (List Int)) × Bool)
 | 0, _, _, _, _, _, _, _, _, _ => none
 | k + 1, x0, x4, x5, x6, x7, x8, x9, x10, x57 => if x57 = true then (spec_SplitTeams.l1 k x0 x4 x5 x6 x7 x8 (wrap64 (x9 + 1))) else (if (x7.length : Int) = 0 then (spec_SplitTeams.l1 k x0 x4 x5 x6 x10 x9 (wrap64 (x9 + 1))) else ((spec_l5Less.f k x10 x7).bind fun t347 => (if t347 = true then (spec_SplitTeams.l1 k x0 x4 x5 x6 x10 x9 (wrap64 (x9 + 1))) else (spec_SplitTeams.l1 k x0 x4 x5 x6 x7 x8 (wrap64 (x9 + 1))))))
end
def spec_SplitTeams.f (k : Nat) (l0 : List (S41)) : Option ((List (List Int)) × Bool) := (some (([] : List (List Int)) : List (List Int))).bind fun y331 => ((spec_l5Good.f k l0).bind fun t334 => (if t334 = true then (if 0 ≤ (IntKind.u64.wrap ((l0.length : Int))) then ((spec_l5Most.f k l0 (wrap64 ((shl .i64 1 (IntKind.u64.wrap ((l0.length : Int)))) - 1))).bind fun t335 => (spec_SplitTeams.l0 k l0 y331 (wrap64 ((shl .i64 1 (IntKind.u64.wrap ((l0.length : Int)))) - 1)) t335)) else (none)) else (some (y331, false))))
set_option maxHeartbeats 8000000 in
set_option maxRecDepth 100000 in
theorem spec_SplitTeams.calls (k : Nat) (A0 : Option Addr) (c0 : Nat) (l0 : List (S41)) (r1 : List (List Int)) (r2 : Bool) (w : World) (hr0 : Kd.C k41 w A0 l0.length l0) (hc0 : l0.length ≤ c0) (h : spec_SplitTeams.f k l0 = some (r1, r2)) :
  Calls Tryz.prog 25 #[.slice A0 l0.length c0] w fun e w' => ∃ v0_ : Value, e = .returned (.tuple #[v0_, .bool r2]) ∧ Kd.S (Kd.slice 3 (Kd.int .i64)) 27 w' w.heap.size (fun _ => True) v0_ r1 ∧ Below w.heap.size w w' := by
 have HR0 := Aside0.mk hr0; have HC0 := Aside0.mk hc0; clear hr0 hc0
 have HB := Aside0.mk (Below.refl w.heap.size w)
 have H : ((some (([] : List (List Int)) : List (List Int))).bind fun y331 => ((spec_l5Good.f k l0).bind fun t334 => (if t334 = true then (if 0 ≤ (IntKind.u64.wrap ((l0.length : Int))) then ((spec_l5Most.f k l0 (wrap64 ((shl .i64 1 (IntKind.u64.wrap ((l0.length : Int)))) - 1))).bind fun t335 => (spec_SplitTeams.l0 k l0 y331 (wrap64 ((shl .i64 1 (IntKind.u64.wrap ((l0.length : Int)))) - 1)) t335)) else (none)) else (some (y331, false))))) = some (r1, r2) := h
 clear h
 obtain ⟨y331, hy331⟩ : ∃ y_ : List (List Int), y_ = (([] : List (List Int))) := ⟨_, rfl⟩
 replace H : ((spec_l5Good.f k l0).bind fun t334 => (if t334 = true then (if 0 ≤ (IntKind.u64.wrap ((l0.length : Int))) then ((spec_l5Most.f k l0 (wrap64 ((shl .i64 1 (IntKind.u64.wrap ((l0.length : Int)))) - 1))).bind fun t335 => (spec_SplitTeams.l0 k l0 y331 (wrap64 ((shl .i64 1 (IntKind.u64.wrap ((l0.length : Int)))) - 1)) t335)) else (none)) else (some (y331, false)))) = some (r1, r2) := by first | (rw [hy331]; with_reducible exact H) | (have H2_ := (Option.bind_some _ _).symm.trans H; rw [hy331]; with_reducible exact H2_) | (have H2_ := (Option.bind_some _ _).symm.trans H; with_reducible exact H2_) | with_reducible exact H | (rw [hy331]; exact H) | exact H
 have Ny331 := Aside0.mk hy331; clear hy331; replace H := Option.bind_eq_some_iff.mp H; obtain ⟨t334, A20, H⟩ := H
 replace H : (if t334 = true then (if 0 ≤ (IntKind.u64.wrap ((l0.length : Int))) then ((spec_l5Most.f k l0 (wrap64 ((shl .i64 1 (IntKind.u64.wrap ((l0.length : Int)))) - 1))).bind fun t335 => (spec_SplitTeams.l0 k l0 y331 (wrap64 ((shl .i64 1 (IntKind.u64.wrap ((l0.length : Int)))) - 1)) t335)) else (none)) else (some (y331, false))) = some (r1, r2) := H
 have A2 := Aside0.mk A20; clear A20
 by_cases c3 : t334 = true
 ·subst c3
  have H1 : (if 0 ≤ (IntKind.u64.wrap ((l0.length : Int))) then ((spec_l5Most.f k l0 (wrap64 ((shl .i64 1 (IntKind.u64.wrap ((l0.length : Int)))) - 1))).bind fun t335 => (spec_SplitTeams.l0 k l0 y331 (wrap64 ((shl .i64 1 (IntKind.u64.wrap ((l0.length : Int)))) - 1)) t335)) else (none)) = some (r1, r2) := by rw [if_pos rfl] at H; exact H
  clear H; have H := H1; clear H1
  obtain ⟨ji4, hji4⟩ : ∃ j_ : Int, (IntKind.u64.wrap ((l0.length : Int))) = j_ := ⟨_, rfl⟩
  replace H : (if 0 ≤ (ji4) then ((spec_l5Most.f k l0 (wrap64 ((shl .i64 1 (ji4)) - 1))).bind fun t335 => (spec_SplitTeams.l0 k l0 y331 (wrap64 ((shl .i64 1 (ji4)) - 1)) t335)) else (none)) = some (r1, r2) := by first | (rw [hji4] at H; exact H) | (simp only [hji4] at H ⊢; exact H)
  (try rw [hji4] at A2)
  by_cases c5 : 0 ≤ (ji4)
  ·rw [if_pos c5] at H
   have c5b0 := eq_true c5
   have c5b1 : decide (0 ≤ (ji4)) = true := decide_eq_true c5
   clear c5
   obtain ⟨ji6, hji6⟩ : ∃ j_ : Int, (shl .i64 1 (ji4)) = j_ := ⟨_, rfl⟩
   replace H : ((spec_l5Most.f k l0 (wrap64 ((ji6) - 1))).bind fun t335 => (spec_SplitTeams.l0 k l0 y331 (wrap64 ((ji6) - 1)) t335)) = some (r1, r2) := by first | (rw [hji6] at H; exact H) | (simp only [hji6] at H ⊢; exact H)
   (try rw [hji6] at A2)
   have hji6_ : (IntKind.i64.wrap (1 * 2 ^ min (ji4).toNat 64)) = ji6 := hji6
   have hji6z : (ji4) ≤ 64 → (IntKind.i64.wrap (1 * 2 ^ (ji4).toNat)) = ji6 := shl_small hji6
   have hji6u : (IntKind.i64.wrap (2 ^ min (ji4).toNat 64)) = ji6 := by have h_ := hji6_; rw [Int.one_mul] at h_; exact h_
   have hji6v : (ji4) ≤ 64 → (IntKind.i64.wrap (2 ^ (ji4).toNat)) = ji6 := fun hle_ => by have h_ := hji6z hle_; rw [Int.one_mul] at h_; exact h_
   have hji6y : (wrap64 (1 * 2 ^ min (ji4).toNat 64)) = ji6 := (i64_w _).symm.trans hji6_
   have hji6x : (ji4) ≤ 64 → (wrap64 (1 * 2 ^ (ji4).toNat)) = ji6 := fun h_ => (i64_w _).symm.trans (hji6z h_)
   replace H := Option.bind_eq_some_iff.mp H; obtain ⟨t335, A70, H⟩ := H
   replace H : (spec_SplitTeams.l0 k l0 y331 (wrap64 ((ji6) - 1)) t335) = some (r1, r2) := H
   have A7 := Aside0.mk A70; clear A70
   have H' := Aside0.mk H
   clear H
   go_enter Tryz.func25, Tryz.ntmps25
   go_wp2_with (first | ((with_reducible refine gate_dst (N := 11) rfl ?_); refine Kd.S_lit (Kd.slice 3 (Kd.int .i64)) _ 27 ?hg (N := 11) ?hd (xs := ([] : List (List Int))) (inner := []) (ok := fun _ => True) (okp := fun _ => True) ?hr ?hp (fun _ hk => hk) trivial (Below.refl _ _) (Nat.le_refl _) (by simp) ?_; (case hd => rfl); (case hg => rfl); (case hr => first | (go_simp; done) | (go_simp; rfl)); (case hp => exact (Reps.none _ _)); intro v332 w8 ho9 hb hg_ hnew_; clear hg_ hnew_; (first | rw [← Ny331.out] at ho9 | (simp only [Int.reduceToNat] at ho9; rw [← Ny331.out] at ho9)); have n0_ := Aside0.mk (Kd.S_lower ho9 (below_size bx_)); have n1_ := Aside0.mk (below_step bx_ hb); clear HB; have HO333 := n0_; have HB := n1_; clear n0_ n1_; clear hb ho9) | ((with_reducible refine gate_callee (f := 38) rfl ?_); refine goesL_ (some 13) rfl rfl Tryz.func38 (by kernel_rfl) rfl #[.slice A0 l0.length c0] rfl gl_ ?_; (with_reducible refine (spec_l5Good.calls k _ _ l0 true _ ?side1 ?side2 A2.out).mono ?_); (case side1 => exact z11_); (case side2 => exact HC0.out); rintro e w10 ⟨rfl, hb⟩; refine ⟨_, rfl, ?_⟩; have n0_ := Aside0.mk (Kd.S_below z46_ hb); have n1_ := Aside0.mk (below_step bx_ hb); clear HO333; clear HB; have HO333 := n0_; have HB := n1_; clear n0_ n1_; (try clear hb); (try clear hk)) | ((with_reducible refine gate_callee (f := 61) rfl ?_); refine goesL_ (some 23) rfl rfl Tryz.func61 (by kernel_rfl) rfl #[.slice A0 l0.length c0, .int .i64 (wrap64 ((ji6) - 1))] rfl (by (try simp only [List.map_toArray, List.map_cons, List.map_nil]); first | done | (simp only [hji6]; rfl) | rfl | (simp only [List.length_drop, List.length_take]; rfl)) ?_; (with_reducible refine (spec_l5Most.calls k _ _ l0 (wrap64 ((ji6) - 1)) t335 _ ?side1 ?side2 A7.out).mono ?_); (case side1 => exact z11_); (case side2 => exact HC0.out); rintro e w' ⟨rfl, ⟨nd, rfl⟩⟩; refine ⟨_, rfl, ?_⟩))
   go_loopg [4, 5, 6] k (fun kq v4 v5 v6 w' => ∃ (x4_1 : List (List Int)) (x5_1 : Int) (x6_1 : Int), v5 = .int .i64 x5_1 ∧ v6 = .int .i64 x6_1 ∧ Aside0 (spec_SplitTeams.l0 kq l0 x4_1 x5_1 x6_1 = some (r1, r2)) ∧ Aside0 (kq ≤ k) ∧ Aside0 (Kd.S (Kd.slice 3 (Kd.int .i64)) 27 w' w.heap.size (fun _ => True) v4 x4_1) ∧ Aside0 (Below w.heap.size w w'))
   case atStart => exact ⟨(y331), (wrap64 ((ji6) - 1)), (t335), (by first | rfl | (simp; done) | (simp only [← hji6] <;> (first | rfl | simp)) | (simp [*]; done)), z2_, H', ⟨Nat.le_refl _⟩, ⟨z46_⟩, ⟨z4_⟩⟩
   case round =>
    clear H'
    (try clear c3); (try clear c5); (try clear c5b0); (try clear c5b1); obtain ⟨x4_1, x5_1, x6_1, rfl, rfl, HA, HK1, HO_4, HB⟩ := hrel
    cases gk with
    | zero => exact absurd HA.out (by simp [spec_SplitTeams.l0])
    | succ k1 =>
     have H := HA.out; clear HA
     simp only [spec_SplitTeams.l0] at H
     by_cases c11 : x6_1 > 0
     ·rw [if_pos c11] at H
      have c11b0 : decide (0 < x6_1) = true := decide_eq_true c11
      clear c11
      obtain ⟨y336, hy336⟩ : ∃ y_ : List Int, y_ = (([] : List Int)) := ⟨_, rfl⟩
      replace H : (spec_SplitTeams.l1 k1 l0 x4_1 x5_1 x6_1 y336 0 1) = some (r1, r2) := by first | (rw [hy336]; with_reducible exact H) | (have H2_ := (Option.bind_some _ _).symm.trans H; rw [hy336]; with_reducible exact H2_) | (have H2_ := (Option.bind_some _ _).symm.trans H; with_reducible exact H2_) | with_reducible exact H | (rw [hy336]; exact H) | exact H
      have Ny336 := Aside0.mk hy336; clear hy336
      have H' := Aside0.mk H
      clear H
      go_wp2_with (first | ((with_reducible refine gate_dst (N := 28) rfl ?_); refine Kd.R_lit (Kd.int .i64) _ 3 ?hg (N := 28) ?hd (xs := ([] : List Int)) (inner := []) (ok := fun _ => True) (okp := fun _ => True) ?hr ?hp (fun _ hk => hk) trivial (Below.refl _ _) (Nat.le_refl _) (by simp) ?_; (case hd => rfl); (case hg => rfl); (case hr => first | (go_simp; done) | (go_simp; rfl)); (case hp => exact (Reps.none _ _)); intro v337 w12 ho13 hb hg_ hnew_; clear hg_ hnew_; (first | rw [← Ny336.out] at ho13 | (simp only [Int.reduceToNat] at ho13; rw [← Ny336.out] at ho13)); have n0_ := Aside0.mk (Kd.S_elder' z17_ (Kd.R_base ho13) hb); have n1_ := Aside0.mk (Kd.R_lower ho13 (below_size bx_)); have n2_ := Aside0.mk (below_step bx_ hb); clear HO_4; clear HB; have HO_4 := n0_; have HO338 := n1_; have HB := n2_; clear n0_ n1_ n2_; clear hb ho13))
      go_loopg [7, 8, 9] k1 (fun kq v7 v8 v9 w' => ∃ (x7_2 : List Int) (x8_2 : Int) (x9_2 : Int), v8 = .int .i64 x8_2 ∧ v9 = .int .i64 x9_2 ∧ Aside0 (spec_SplitTeams.l1 kq l0 x4_1 x5_1 x6_1 x7_2 x8_2 x9_2 = some (r1, r2)) ∧ Aside0 (kq ≤ k1) ∧ Aside0 (Kd.S (Kd.slice 3 (Kd.int .i64)) 27 w' w.heap.size (fun k_ => some k_ ≠ (v7 : Value).ownBlock) u4 x4_1) ∧ Aside0 (Kd.R (Kd.int .i64) 3 w' w.heap.size (fun _ => True) v7 x7_2) ∧ Aside0 (Below w.heap.size w w'))
      case atStart => exact ⟨(y336), (0), (1), z2_, z2_, H', ⟨Nat.le_refl _⟩, ⟨z40_⟩, ⟨by (with_reducible repeat (first | apply Kd.R_alloc | apply Kd.R_drewN | apply Kd.R_drew)); exact HO338.out⟩, ⟨z4_⟩⟩
      case round =>
       clear H'
       (try clear c3); (try clear c5); (try clear c5b0); (try clear c5b1); (try clear c11); (try clear c11b0); obtain ⟨x7_2, x8_2, x9_2, rfl, rfl, HA, HK2, HO_4, HO_7, HB⟩ := hrel
       cases gk with
       | zero => exact absurd HA.out (by simp [spec_SplitTeams.l1])
       | succ k2 =>
        have H := HA.out; clear HA
        simp only [spec_SplitTeams.l1] at H
        by_cases c14 : x9_2 ≤ x5_1
        ·rw [if_pos c14] at H
         have c14b0 : decide (x9_2 ≤ x5_1) = true := decide_eq_true c14
         clear c14; replace H := Option.bind_eq_some_iff.mp H; obtain ⟨t342, A150, H⟩ := H
         replace H : (if (Go.bits .and .i64 x9_2 x5_1) = x9_2 then ((spec_l5Team.f k2 l0 t342).bind fun t345 => (if t345 = true then ((spec_l5Most.f k2 l0 (wrap64 (x5_1 - x9_2))).bind fun t346 => (spec_SplitTeams.j2 k2 l0 x4_1 x5_1 x6_1 x7_2 x8_2 x9_2 t342 (decide (t346 < (wrap64 (x6_1 - 1)))))) else (spec_SplitTeams.j2 k2 l0 x4_1 x5_1 x6_1 x7_2 x8_2 x9_2 t342 true))) else (spec_SplitTeams.j2 k2 l0 x4_1 x5_1 x6_1 x7_2 x8_2 x9_2 t342 true)) = some (r1, r2) := H
         have A15 := Aside0.mk A150; clear A150; have HC16 := Aside0.mk H; clear H
         go_upto_region 13 with (first | ((with_reducible refine gate_callee (f := 40) rfl ?_); refine goesL_ (some 36) rfl rfl Tryz.func40 (by kernel_rfl) rfl #[.slice A0 l0.length c0, .int .i64 x9_2] rfl gl_ ?_; (with_reducible refine (spec_l5Members.calls k2 _ _ l0 x9_2 t342 _ ?side1 ?side2 A15.out).mono ?_); (case side1 => exact z11_); (case side2 => exact HC0.out); rintro e w17 ⟨v343, rfl, ho0, hb⟩; refine ⟨_, rfl, ?_⟩; have n0_ := Aside0.mk (Kd.S_elder' z17_ (Kd.R_base ho0) hb); have n1_ := Aside0.mk (Kd.R_elder' (kr_ HO_7) (Kd.R_base ho0) hb); have n2_ := Aside0.mk (Kd.R_lower (Kd.R_new' ho0 (Kd.R_lt (kr_ HO_7))) (below_size bx_)); have n3_ := Aside0.mk (below_step bx_ hb); clear HO_4; clear HO_7; clear HB; have HO_4 := n0_; have HO_7 := n1_; have HO344 := n2_; have HB := n3_; clear n0_ n1_ n2_ n3_; (try clear hb); (try clear hk); (try clear ho0)))
         (try simp only [Act.put, zA, zB, zC])
         go_cut [57] (fun v57 wc => ∃ (kq : Nat) (x57_15 : Bool), v57 = .bool x57_15 ∧ Aside0 (spec_SplitTeams.j2 kq l0 x4_1 x5_1 x6_1 x7_2 x8_2 x9_2 t342 x57_15 = some (r1, r2)) ∧ Aside0 (kq ≤ k2) ∧ Aside0 (Kd.S (Kd.slice 3 (Kd.int .i64)) 27 wc w.heap.size (fun k_ => some k_ ≠ (u7 : Value).ownBlock ∧ some k_ ≠ (v343 : Value).ownBlock) u4 x4_1) ∧ Aside0 (Kd.R (Kd.int .i64) 3 wc w.heap.size (fun k_ => some k_ ≠ (v343 : Value).ownBlock) u7 x7_2) ∧ Aside0 (Kd.R (Kd.int .i64) 3 wc w.heap.size (fun k_ => some k_ ≠ (u7 : Value).ownBlock) v343 t342) ∧ Aside0 (Below w.heap.size w wc))
         case first =>
          have H := HC16.out; clear HC16
          by_cases c18 : (Go.bits .and .i64 x9_2 x5_1) = x9_2
          ·rw [if_pos c18] at H
           have c18b0 : ((Go.bits .and .i64 x9_2 x5_1) == x9_2) = true := beq_iff_eq.mpr c18
           have c18b1 : ((Go.bits .and .i64 x9_2 x5_1) != x9_2) = false := bne_eq_false_iff_eq.mpr c18
           clear c18
           (first | rw [c18b0] | (simp only [i64_w, i32_w]; rw [c18b0]) | skip)
           replace H := Option.bind_eq_some_iff.mp H; obtain ⟨t345, A190, H⟩ := H
           replace H : (if t345 = true then ((spec_l5Most.f k2 l0 (wrap64 (x5_1 - x9_2))).bind fun t346 => (spec_SplitTeams.j2 k2 l0 x4_1 x5_1 x6_1 x7_2 x8_2 x9_2 t342 (decide (t346 < (wrap64 (x6_1 - 1)))))) else (spec_SplitTeams.j2 k2 l0 x4_1 x5_1 x6_1 x7_2 x8_2 x9_2 t342 true)) = some (r1, r2) := H
           have A19 := Aside0.mk A190; clear A190
           by_cases c20 : t345 = true
           ·subst c20
            have H1 : ((spec_l5Most.f k2 l0 (wrap64 (x5_1 - x9_2))).bind fun t346 => (spec_SplitTeams.j2 k2 l0 x4_1 x5_1 x6_1 x7_2 x8_2 x9_2 t342 (decide (t346 < (wrap64 (x6_1 - 1)))))) = some (r1, r2) := by rw [if_pos rfl] at H; exact H
            clear H; have H := H1; clear H1; replace H := Option.bind_eq_some_iff.mp H; obtain ⟨t346, A210, H⟩ := H
            replace H : (spec_SplitTeams.j2 k2 l0 x4_1 x5_1 x6_1 x7_2 x8_2 x9_2 t342 (decide (t346 < (wrap64 (x6_1 - 1))))) = some (r1, r2) := H
            have A21 := Aside0.mk A210; clear A210
            have H' := Aside0.mk H
            clear H
            obtain ⟨Ao22, co22, eo22⟩ := Kd.R_slice HO344.out
            subst eo22
            go_wp2_with (first | (go_at_call 41; (with_reducible refine (spec_l5Team.calls k2 _ _ l0 _ _ t342 true _ ?side1 ?side2 ?side3 ?side4 A19.out).mono ?_); (case side1 => exact z11_); (case side2 => exact HC0.out); (case side3 => repeat (first | exact (Kd.R_reads' HO344.out).2.2 | (with_reducible refine Kd.C_alloc ?_ _) | (with_reducible refine Kd.C_drewN ?_ _) | (with_reducible refine Kd.C_drew ?_))); (case side4 => exact (Kd.R_reads' HO344.out).2.1); rintro e w23 ⟨rfl, hb⟩; have n0_ := Aside0.mk (Kd.S_below z17_ hb); have n1_ := Aside0.mk (Kd.R_below (kr_ HO_7) hb); have n2_ := Aside0.mk (Kd.R_below (kr_ HO344) hb); have n3_ := Aside0.mk (below_step bx_ hb); clear HO_4; clear HO_7; clear HO344; clear HB; have HO_4 := n0_; have HO_7 := n1_; have HO344 := n2_; have HB := n3_; clear n0_ n1_ n2_ n3_; (try clear hb); (try clear hk)) | (go_at_call 61; (with_reducible refine (spec_l5Most.calls k2 _ _ l0 (wrap64 (x5_1 - x9_2)) t346 _ ?side1 ?side2 A21.out).mono ?_); (case side1 => exact z11_); (case side2 => exact HC0.out); rintro e w' ⟨rfl, ⟨nd, rfl⟩⟩))
            go_meet
            case rel => exact ⟨_, (decide (t346 < (wrap64 (x6_1 - 1)))), z2_, H', ⟨by have := HK1.out; have := HK2.out; first | omega | exact Nat.le_refl _⟩, ⟨z17_⟩, ⟨z58_⟩, ⟨z59_⟩, ⟨z4_⟩⟩
           ·replace c20 := Bool.eq_false_iff.mpr c20
            subst c20
            have H1 : (spec_SplitTeams.j2 k2 l0 x4_1 x5_1 x6_1 x7_2 x8_2 x9_2 t342 true) = some (r1, r2) := by rw [if_neg (show ¬ (false = true) by decide)] at H; exact H
            clear H; have H := H1; clear H1
            have H' := Aside0.mk H
            clear H
            obtain ⟨Ao24, co24, eo24⟩ := Kd.R_slice HO344.out
            subst eo24
            go_wp2_with (first | (go_at_call 41; (with_reducible refine (spec_l5Team.calls k2 _ _ l0 _ _ t342 false _ ?side1 ?side2 ?side3 ?side4 A19.out).mono ?_); (case side1 => exact z11_); (case side2 => exact HC0.out); (case side3 => repeat (first | exact (Kd.R_reads' HO344.out).2.2 | (with_reducible refine Kd.C_alloc ?_ _) | (with_reducible refine Kd.C_drewN ?_ _) | (with_reducible refine Kd.C_drew ?_))); (case side4 => exact (Kd.R_reads' HO344.out).2.1); rintro e w25 ⟨rfl, hb⟩; have n0_ := Aside0.mk (Kd.S_below z17_ hb); have n1_ := Aside0.mk (Kd.R_below (kr_ HO_7) hb); have n2_ := Aside0.mk (Kd.R_below (kr_ HO344) hb); have n3_ := Aside0.mk (below_step bx_ hb); clear HO_4; clear HO_7; clear HO344; clear HB; have HO_4 := n0_; have HO_7 := n1_; have HO344 := n2_; have HB := n3_; clear n0_ n1_ n2_ n3_; (try clear hb); (try clear hk)))
            go_meet
            case rel => exact ⟨_, (true), z2_, H', ⟨by have := HK1.out; have := HK2.out; first | omega | exact Nat.le_refl _⟩, ⟨z17_⟩, ⟨z58_⟩, ⟨z59_⟩, ⟨z4_⟩⟩
          ·rw [if_neg c18] at H
           have c18b0 : ((Go.bits .and .i64 x9_2 x5_1) == x9_2) = false := beq_eq_false_iff_ne.mpr c18
           have c18b1 : ((Go.bits .and .i64 x9_2 x5_1) != x9_2) = true := bne_iff_ne.mpr c18
           (first | rw [c18b0] | (simp only [i64_w, i32_w]; rw [c18b0]) | skip)
           have H' := Aside0.mk H
           clear H
           go_wp2
           go_meet
           case rel => exact ⟨_, (true), z2_, H', ⟨by have := HK1.out; have := HK2.out; first | omega | exact Nat.le_refl _⟩, ⟨z17_⟩, ⟨z58_⟩, ⟨z59_⟩, ⟨z4_⟩⟩
         case rest =>
          clear HC16; (try clear c3); (try clear c5); (try clear c5b0); (try clear c5b1); (try clear c11); (try clear c11b0); (try clear c14); (try clear c14b0); (try clear c18); (try clear c18b0); (try clear c18b1); (try clear c20); obtain ⟨kq, x57_15, rfl, HA, HJ15, HO_4, HO_7, HO_10, HB⟩ := hcut
          cases kq with
          | zero => exact absurd HA.out (by simp [spec_SplitTeams.j2])
          | succ kj15 =>
           have H := HA.out; clear HA
           simp only [spec_SplitTeams.j2] at H
           by_cases c26 : x57_15 = true
           ·subst c26
            have H1 : (spec_SplitTeams.l1 kj15 l0 x4_1 x5_1 x6_1 x7_2 x8_2 (wrap64 (x9_2 + 1))) = some (r1, r2) := by rw [if_pos rfl] at H; exact H
            clear H; have H := H1; clear H1
            have H' := Aside0.mk H
            clear H
            go_wp2
            go_roundg kj15
            case measure => have := HK1.out; have := HK2.out; have := HJ15.out; omega
            case rel => exact ⟨(x7_2), (x8_2), (wrap64 (x9_2 + 1)), z2_, z2_, H', ⟨by have := HK1.out; have := HK2.out; have := HJ15.out; omega⟩, ⟨by (with_reducible repeat (first | apply Kd.S_alloc | apply Kd.S_drewN | apply Kd.S_drew)); exact Kd.S_mono HO_4.out (fun _ hk => hk.1)⟩, ⟨by (with_reducible repeat (first | apply Kd.R_alloc | apply Kd.R_drewN | apply Kd.R_drew)); exact Kd.R_mono HO_7.out (fun _ hk => trivial)⟩, ⟨z4_⟩⟩
           ·replace c26 := Bool.eq_false_iff.mpr c26
            subst c26
            have H1 : (if (x7_2.length : Int) = 0 then (spec_SplitTeams.l1 kj15 l0 x4_1 x5_1 x6_1 t342 x9_2 (wrap64 (x9_2 + 1))) else ((spec_l5Less.f kj15 t342 x7_2).bind fun t347 => (if t347 = true then (spec_SplitTeams.l1 kj15 l0 x4_1 x5_1 x6_1 t342 x9_2 (wrap64 (x9_2 + 1))) else (spec_SplitTeams.l1 kj15 l0 x4_1 x5_1 x6_1 x7_2 x8_2 (wrap64 (x9_2 + 1)))))) = some (r1, r2) := by rw [if_neg (show ¬ (false = true) by decide)] at H; exact H
            clear H; have H := H1; clear H1
            by_cases c27 : (x7_2.length : Int) = 0
            ·rw [if_pos c27] at H
             have c27b0 : ((x7_2.length : Int) == 0) = true := beq_iff_eq.mpr c27
             have c27b1 : ((x7_2.length : Int) != 0) = false := bne_eq_false_iff_eq.mpr c27
             clear c27
             have H' := Aside0.mk H
             clear H
             obtain ⟨Ao28, co28, eo28⟩ := Kd.R_slice HO_7.out
             subst eo28
             go_wp2
             go_roundg kj15
             case measure => have := HK1.out; have := HK2.out; have := HJ15.out; omega
             case rel => exact ⟨(t342), (x9_2), (wrap64 (x9_2 + 1)), z2_, z2_, H', ⟨by have := HK1.out; have := HK2.out; have := HJ15.out; omega⟩, ⟨z40_⟩, ⟨by (with_reducible repeat (first | apply Kd.R_alloc | apply Kd.R_drewN | apply Kd.R_drew)); exact Kd.R_mono HO_10.out (fun _ hk => trivial)⟩, ⟨z4_⟩⟩
            ·rw [if_neg c27] at H
             have c27b0 : ((x7_2.length : Int) == 0) = false := beq_eq_false_iff_ne.mpr c27
             have c27b1 : ((x7_2.length : Int) != 0) = true := bne_iff_ne.mpr c27
             have c27b2 : ¬ (x7_2 = []) := fun h_ => c27 (by rw [h_]; rfl)
             replace H := Option.bind_eq_some_iff.mp H; obtain ⟨t347, A290, H⟩ := H
             replace H : (if t347 = true then (spec_SplitTeams.l1 kj15 l0 x4_1 x5_1 x6_1 t342 x9_2 (wrap64 (x9_2 + 1))) else (spec_SplitTeams.l1 kj15 l0 x4_1 x5_1 x6_1 x7_2 x8_2 (wrap64 (x9_2 + 1)))) = some (r1, r2) := H
             have A29 := Aside0.mk A290; clear A290
             by_cases c30 : t347 = true
             ·subst c30
              have H1 : (spec_SplitTeams.l1 kj15 l0 x4_1 x5_1 x6_1 t342 x9_2 (wrap64 (x9_2 + 1))) = some (r1, r2) := by rw [if_pos rfl] at H; exact H
              clear H; have H := H1; clear H1
              have H' := Aside0.mk H
              clear H
              obtain ⟨Ao31, co31, eo31⟩ := Kd.R_slice HO_7.out
              subst eo31
              obtain ⟨Ao32, co32, eo32⟩ := Kd.R_slice HO_10.out
              subst eo32
              go_wp2_with (first | (go_at_call 43; (with_reducible refine (spec_l5Less.calls kj15 _ _ t342 _ _ x7_2 true _ ?side1 ?side2 ?side3 ?side4 A29.out).mono ?_); (case side1 => exact z66_); (case side2 => exact (Kd.R_reads' HO_10.out).2.1); (case side3 => repeat (first | exact (Kd.R_reads' HO_7.out).2.2 | (with_reducible refine Kd.C_alloc ?_ _) | (with_reducible refine Kd.C_drewN ?_ _) | (with_reducible refine Kd.C_drew ?_))); (case side4 => exact (Kd.R_reads' HO_7.out).2.1); rintro e w' ⟨rfl, ⟨nd, rfl⟩⟩))
              go_roundg kj15
              case measure => have := HK1.out; have := HK2.out; have := HJ15.out; omega
              case rel => exact ⟨(t342), (x9_2), (wrap64 (x9_2 + 1)), z2_, z2_, H', ⟨by have := HK1.out; have := HK2.out; have := HJ15.out; omega⟩, ⟨z40_⟩, ⟨by (with_reducible repeat (first | apply Kd.R_alloc | apply Kd.R_drewN | apply Kd.R_drew)); exact Kd.R_mono HO_10.out (fun _ hk => trivial)⟩, ⟨z4_⟩⟩
             ·replace c30 := Bool.eq_false_iff.mpr c30
              subst c30
              have H1 : (spec_SplitTeams.l1 kj15 l0 x4_1 x5_1 x6_1 x7_2 x8_2 (wrap64 (x9_2 + 1))) = some (r1, r2) := by rw [if_neg (show ¬ (false = true) by decide)] at H; exact H
              clear H; have H := H1; clear H1
              have H' := Aside0.mk H
              clear H
              obtain ⟨Ao33, co33, eo33⟩ := Kd.R_slice HO_7.out
              subst eo33
              obtain ⟨Ao34, co34, eo34⟩ := Kd.R_slice HO_10.out
              subst eo34
              go_wp2_with (first | (go_at_call 43; (with_reducible refine (spec_l5Less.calls kj15 _ _ t342 _ _ x7_2 false _ ?side1 ?side2 ?side3 ?side4 A29.out).mono ?_); (case side1 => exact z66_); (case side2 => exact (Kd.R_reads' HO_10.out).2.1); (case side3 => repeat (first | exact (Kd.R_reads' HO_7.out).2.2 | (with_reducible refine Kd.C_alloc ?_ _) | (with_reducible refine Kd.C_drewN ?_ _) | (with_reducible refine Kd.C_drew ?_))); (case side4 => exact (Kd.R_reads' HO_7.out).2.1); rintro e w' ⟨rfl, ⟨nd, rfl⟩⟩))
              go_roundg kj15
              case measure => have := HK1.out; have := HK2.out; have := HJ15.out; omega
              case rel => exact ⟨(x7_2), (x8_2), (wrap64 (x9_2 + 1)), z2_, z2_, H', ⟨by have := HK1.out; have := HK2.out; have := HJ15.out; omega⟩, ⟨by (with_reducible repeat (first | apply Kd.S_alloc | apply Kd.S_drewN | apply Kd.S_drew)); exact Kd.S_mono HO_4.out (fun _ hk => hk.1)⟩, ⟨by (with_reducible repeat (first | apply Kd.R_alloc | apply Kd.R_drewN | apply Kd.R_drew)); exact Kd.R_mono HO_7.out (fun _ hk => trivial)⟩, ⟨z4_⟩⟩
        ·rw [if_neg c14] at H
         have c14b0 : decide (x9_2 ≤ x5_1) = false := decide_eq_false c14
         clear c14
         by_cases c35 : x4_1.length < 5864062014805
         ·rw [if_pos c35] at H
          have LMc35 := Aside0.mk c35; clear c35
          obtain ⟨y339, hy339⟩ : ∃ y_ : List (List Int), y_ = (x4_1 ++ [x7_2]) := ⟨_, rfl⟩
          replace H : (spec_SplitTeams.l0 k2 l0 y339 (wrap64 (x5_1 - x8_2)) (wrap64 (x6_1 - 1))) = some (r1, r2) := by first | (rw [hy339]; with_reducible exact H) | (have H2_ := (Option.bind_some _ _).symm.trans H; rw [hy339]; with_reducible exact H2_) | (have H2_ := (Option.bind_some _ _).symm.trans H; with_reducible exact H2_) | with_reducible exact H | (rw [hy339]; exact H) | exact H
          have Ny339 := Aside0.mk hy339; clear hy339
          have H' := Aside0.mk H
          clear H
          obtain ⟨Ao37, co37, eo37⟩ := Kd.R_slice HO_7.out
          subst eo37
          go_wp2_with (first | ((with_reducible refine gate_builtin (b := .append) (xs := #[.tmp 68, .tmp 70]) rfl ?_); at_builtin; refine Kd.S_append (Kd.slice 3 (Kd.int .i64)) (w0 := w) w.heap.size rfl (.tmp 68) (.tmp 70) 48 27 (.slice none 0 0) 24 rfl Tryz.underlying48 info27 rfl (by decide) (by omega) u4 x4_1 x7_2 [.slice Ao37 x7_2.length co37] (fun _ => True) (fun k_ => some k_ = (.slice Ao37 x7_2.length co37 : Value).ownBlock) rfl rfl ?aP (fun k_ hk_ => ((Kd.R_mono (ok' := fun k_ => ((fun _ => True)) k_ ∧ some k_ ≠ (u4 : Value).ownBlock) (Kd.R_apart' (HO_7.out) (Kd.S_typed HO_4.out) (by decide)) (fun k_ hk => ⟨trivial, hk.2⟩))).1 k_ hk_.symm) ?aF ?aO ?aB ?aS ?aL ?_; (case aP => exact Kd.M_row (Kd.R_mono (Kd.R_tight rfl (Kd.R_mono (ok' := fun k_ => ((fun _ => True)) k_ ∧ some k_ ≠ (u4 : Value).ownBlock) (Kd.R_apart' (HO_7.out) (Kd.S_typed HO_4.out) (by decide)) (fun k_ hk => ⟨trivial, hk.2⟩))) (fun _ h_ => h_))); (case aB => exact bx_); (case aF => exact (fun _ _ => trivial)); (case aO => exact (by (with_reducible repeat (first | apply Kd.S_alloc | apply Kd.S_drewN | apply Kd.S_drew)); exact Kd.S_mono HO_4.out (fun k_ hk => ⟨trivial, fun e_ => hk e_⟩))); (case aS => exact (below_size bx_)); (case aL => have := LMc35.out; omega); intro v340 w36 ho hb hg hat; rw [← Ny339.out] at ho; have n0_ := Aside0.mk (hb); have n1_ := Aside0.mk (ho); clear HB; clear HO_4; clear HO_7; have HB := n0_; have HO341 := n1_; clear n0_ n1_; clear ho hb hg hat))
          go_roundg k2
          case measure => have := HK1.out; have := HK2.out; omega
          case rel => exact ⟨(y339), (wrap64 (x5_1 - x8_2)), (wrap64 (x6_1 - 1)), z2_, z2_, H', ⟨by have := HK1.out; have := HK2.out; omega⟩, ⟨by (with_reducible repeat (first | apply Kd.S_alloc | apply Kd.S_drewN | apply Kd.S_drew)); exact HO341.out⟩, ⟨z4_⟩⟩
         ·rw [if_neg c35] at H
          exact absurd H (by simp)
     ·rw [if_neg c11] at H
      have c11b0 : decide (0 < x6_1) = false := decide_eq_false c11
      clear c11
      simp only [Option.some.injEq, Prod.mk.injEq] at H
      obtain ⟨rfl, rfl⟩ := H
      go_wp2
      go_ret2
      exact ⟨_, by first | rfl | (simp [errW_none, errW_some] <;> rfl) | (simp only [← hji4, ← hji6]; first | rfl | (simp [errW_none, errW_some] <;> rfl)) | (simp [*, errW_none, errW_some] <;> rfl), z17_, z4_⟩
  ·rw [if_neg c5] at H
   exact absurd H (by simp)
 ·replace c3 := Bool.eq_false_iff.mpr c3
  subst c3
  have H1 : (some (y331, false)) = some (r1, r2) := by rw [if_neg (show ¬ (false = true) by decide)] at H; exact H
  clear H; have H := H1; clear H1
  simp only [Option.some.injEq, Prod.mk.injEq] at H
  obtain ⟨rfl, rfl⟩ := H
  go_enter Tryz.func25, Tryz.ntmps25
  go_wp2_with (first | ((with_reducible refine gate_dst (N := 11) rfl ?_); refine Kd.S_lit (Kd.slice 3 (Kd.int .i64)) _ 27 ?hg (N := 11) ?hd (xs := ([] : List (List Int))) (inner := []) (ok := fun _ => True) (okp := fun _ => True) ?hr ?hp (fun _ hk => hk) trivial (Below.refl _ _) (Nat.le_refl _) (by simp) ?_; (case hd => rfl); (case hg => rfl); (case hr => first | (go_simp; done) | (go_simp; rfl)); (case hp => exact (Reps.none _ _)); intro v332 w38 ho39 hb hg_ hnew_; clear hg_ hnew_; (first | rw [← Ny331.out] at ho39 | (simp only [Int.reduceToNat] at ho39; rw [← Ny331.out] at ho39)); have n0_ := Aside0.mk (Kd.S_lower ho39 (below_size bx_)); have n1_ := Aside0.mk (below_step bx_ hb); clear HB; have HO333 := n0_; have HB := n1_; clear n0_ n1_; clear hb ho39) | ((with_reducible refine gate_callee (f := 38) rfl ?_); refine goesL_ (some 13) rfl rfl Tryz.func38 (by kernel_rfl) rfl #[.slice A0 l0.length c0] rfl gl_ ?_; (with_reducible refine (spec_l5Good.calls k _ _ l0 false _ ?side1 ?side2 A2.out).mono ?_); (case side1 => exact z11_); (case side2 => exact HC0.out); rintro e w40 ⟨rfl, hb⟩; refine ⟨_, rfl, ?_⟩; have n0_ := Aside0.mk (Kd.S_below z46_ hb); have n1_ := Aside0.mk (below_step bx_ hb); clear HO333; clear HB; have HO333 := n0_; have HB := n1_; clear n0_ n1_; (try clear hb); (try clear hk)))
  go_ret2
  exact ⟨_, z7_, z46_, z4_⟩

end Go.Proofs.YtafdklajmklmkaaGreatDoor.XFnTeamCounts
