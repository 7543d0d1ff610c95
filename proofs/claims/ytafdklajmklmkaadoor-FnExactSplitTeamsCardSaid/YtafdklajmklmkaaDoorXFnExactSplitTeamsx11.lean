/- Contracts of the functions that the law FnExactSplitTeams comes to: each is told as a plain function of its arguments, and the machine's call does what that function says; no condition. Written by programs (print.py, xprint.py); Lean checks it. -/
import Derived.Test.YtafdklajmklmkaaDoorXFnExactSplitTeamsx0
import Derived.Test.YtafdklajmklmkaaDoorXFnExactSplitTeamsx1
import Derived.Test.YtafdklajmklmkaaDoorXFnExactSplitTeamsx2
import Derived.Test.YtafdklajmklmkaaDoorXFnExactSplitTeamsx5
import Derived.Test.YtafdklajmklmkaaDoorXFnExactSplitTeamsx10
namespace Go.Proofs.YtafdklajmklmkaaDoor.XFnExactSplitTeams
open Go.RowKit Go.Proofs.YtafdklajmklmkaaDoorW.PrintWords Go.Proofs.YtafdklajmklmkaaDoorW.PrintLast Go.Proofs.YtafdklajmklmkaaDoorW.PrintMore
attribute [local go_sem] max2_int min2_int max_two min_two max_three min_three max_four min_four   -- for this text's walks alone
set_option linter.unusedVariables false
set_option linter.unusedSimpArgs false

/-! ### laws_heldIntS: function 22 -/
def laws_heldIntS.l0 : Nat → List Int → Int → Int → Option (Int)
 | 0, _, _, _ => none
 | k + 1, x0, x1, x5 => if x5 < (x0.length : Int) then (if 0 ≤ x5 then (if (rd x0 x5) = x1 then (laws_heldIntS.l0 k x0 (wrap64 (x1 + 1)) (wrap64 (x5 + 1))) else (some (-1))) else (none)) else (some x1)
def laws_heldIntS.f (k : Nat) (l0 : List Int) (a1 : Int) : Option (Int) := laws_heldIntS.l0 k l0 a1 0
theorem laws_heldIntS.mono_l : ∀ k, (∀ y0 y1 y2, LeO (laws_heldIntS.l0 k y0 y1 y2) (laws_heldIntS.l0 (k + 1) y0 y1 y2))
 | 0 => fun _ _ _ r h => by simp [laws_heldIntS.l0] at h
 | k + 1 => by
  have ih0 := laws_heldIntS.mono_l k
  ·intro y0 y1 y2
   unfold laws_heldIntS.l0
   repeat' first
   | (with_reducible exact ih0 _ _ _)
   | (with_reducible exact LeO.refl _)
   | (with_reducible exact LeO.none _)
   | (with_reducible refine LeO.ite ?_ ?_)
   | (with_reducible refine LeO.bind ?_ (fun _ => ?_))
   | exact ih0 _ _ _
   | exact LeO.none _
   | refine LeO.ite ?_ ?_
   | refine LeO.bind ?_ (fun _ => ?_)
theorem laws_heldIntS.mono : ∀ a0 a1 k, LeO (laws_heldIntS.f k a0 a1) (laws_heldIntS.f (k + 1) a0 a1) := by
 intro a0 a1 k
 have ih0 := laws_heldIntS.mono_l k
 unfold laws_heldIntS.f
 repeat' first
   | (with_reducible exact ih0 _ _ _)
   | (with_reducible exact LeO.refl _)
   | (with_reducible exact LeO.none _)
   | (with_reducible refine LeO.ite ?_ ?_)
   | (with_reducible refine LeO.bind ?_ (fun _ => ?_))
   | exact ih0 _ _ _
   | exact LeO.none _
   | refine LeO.ite ?_ ?_
   | refine LeO.bind ?_ (fun _ => ?_)
set_option maxHeartbeats 8000000 in
set_option maxRecDepth 100000 in
theorem laws_heldIntS.calls (k : Nat) (A0 : Option Addr) (c0 : Nat) (l0 : List Int) (a1 : Int) (r : Int) (w : World) (hr0 : Kd.C (Kd.int .i64) w A0 l0.length l0) (hc0 : l0.length ≤ c0) (h : laws_heldIntS.f k l0 a1 = some r) :
  Calls Tryd.prog 22 #[.slice A0 l0.length c0, .int .i64 a1] w fun e w' => e = .returned (.int .i64 r) ∧ Drawn0 w w' := by
 have HR0 := Aside0.mk hr0; have HC0 := Aside0.mk hc0; clear hr0 hc0
 have H : (laws_heldIntS.l0 k l0 a1 0) = some r := h
 clear h
 have H' := Aside0.mk H
 clear H
 go_enter Tryd.func22, Tryd.ntmps22
 go_wp2
 go_loopg [1, 5] k (fun kq v1 v5 w' => ∃ (x1_1 : Int) (x5_1 : Int), v1 = .int .i64 x1_1 ∧ v5 = .int .i64 x5_1 ∧ Aside0 (laws_heldIntS.l0 kq l0 x1_1 x5_1 = some r) ∧ Aside0 (kq ≤ k) ∧ Drawn0 w w')
 case atStart => exact ⟨(a1), (0), (by first | rfl | (simp; done) | (simp [*]; done)), (by first | rfl | (simp; done) | (simp [*]; done)), H', ⟨Nat.le_refl _⟩, by repeat (first | exact Drawn0.refl _ | apply Drawn0.step)⟩
 case round =>
  clear H'
  obtain ⟨x1_1, x5_1, rfl, rfl, HA, HK1, ⟨m1, rfl⟩⟩ := hrel
  cases gk with
  | zero => exact absurd HA.out (by simp [laws_heldIntS.l0])
  | succ k1 =>
   have H := HA.out; clear HA
   simp only [laws_heldIntS.l0] at H
   by_cases c3 : x5_1 < (l0.length : Int)
   ·rw [if_pos c3] at H
    have c3b0 : decide (x5_1 < (l0.length : Int)) = true := decide_eq_true c3
    clear c3
    by_cases c4 : 0 ≤ x5_1
    ·rw [if_pos c4] at H
     have c4b0 : decide (0 ≤ x5_1) = true := decide_eq_true c4
     clear c4
     by_cases c5 : (rd l0 x5_1) = x1_1
     ·rw [if_pos c5] at H
      have c5b0 : ((rd l0 x5_1) == x1_1) = true := beq_iff_eq.mpr c5
      have c5b1 : ((rd l0 x5_1) != x1_1) = false := bne_eq_false_iff_eq.mpr c5
      clear c5
      have H' := Aside0.mk H
      clear H
      have p256 : 0 ≤ (x5_1 : Int) := of_decide_eq_true (by first | (with_reducible assumption) | assumption)
      have q256 : x5_1 < (l0.length : Int) := of_decide_eq_true (by first | (with_reducible assumption) | assumption)
      obtain ⟨ad256, e256, hx256_0⟩ := Kd.at_int HR0.out x5_1 p256 q256
      cases e256
      replace p256 := eq_true p256
      replace q256 := eq_true q256
      go_wp2
      go_roundg k1
      case measure => have := HK1.out; omega
      case rel => exact ⟨(wrap64 (x1_1 + 1)), (wrap64 (x5_1 + 1)), (by first | rfl | (simp; done) | (simp [*]; done)), (by first | rfl | (simp; done) | (simp [*]; done)), H', ⟨by have := HK1.out; omega⟩, by repeat (first | exact Drawn0.refl _ | apply Drawn0.step)⟩
     ·rw [if_neg c5] at H
      have c5b0 : ((rd l0 x5_1) == x1_1) = false := beq_eq_false_iff_ne.mpr c5
      have c5b1 : ((rd l0 x5_1) != x1_1) = true := bne_iff_ne.mpr c5
      obtain rfl := Option.some.inj H
      have p256 : 0 ≤ (x5_1 : Int) := of_decide_eq_true (by first | (with_reducible assumption) | assumption)
      have q256 : x5_1 < (l0.length : Int) := of_decide_eq_true (by first | (with_reducible assumption) | assumption)
      obtain ⟨ad256, e256, hx256_0⟩ := Kd.at_int HR0.out x5_1 p256 q256
      cases e256
      replace p256 := eq_true p256
      replace q256 := eq_true q256
      go_wp2
      go_ret
      exact ⟨by first | rfl | (simp; done) | (simp [*]; done), by repeat (first | exact Drawn0.refl _ | apply Drawn0.step)⟩
    ·rw [if_neg c4] at H
     exact absurd H (by simp)
   ·rw [if_neg c3] at H
    have c3b0 : decide (x5_1 < (l0.length : Int)) = false := decide_eq_false c3
    clear c3
    obtain rfl := Option.some.inj H
    go_wp2
    go_ret
    exact ⟨by first | rfl | (simp; done) | (simp [*]; done), by repeat (first | exact Drawn0.refl _ | apply Drawn0.step)⟩

/-! ### laws_heldIntSS: function 41 -/
def laws_heldIntSS.l0 : Nat → List (List Int) → Int → Int → Option (Int)
 | 0, _, _, _ => none
 | k + 1, x0, x1, x5 => if x5 < (x0.length : Int) then (if 0 ≤ x5 then ((laws_heldIntS.f k (rd_L5 x0 x5) x1).bind fun t258 => (if t258 < 0 then (some (-1)) else (laws_heldIntSS.l0 k x0 t258 (wrap64 (x5 + 1))))) else (none)) else (some x1)
def laws_heldIntSS.f (k : Nat) (l0 : List (List Int)) (a1 : Int) : Option (Int) := laws_heldIntSS.l0 k l0 a1 0
theorem laws_heldIntSS.mono_l : ∀ k, (∀ y0 y1 y2, LeO (laws_heldIntSS.l0 k y0 y1 y2) (laws_heldIntSS.l0 (k + 1) y0 y1 y2))
 | 0 => fun _ _ _ r h => by simp [laws_heldIntSS.l0] at h
 | k + 1 => by
  have ih0 := laws_heldIntSS.mono_l k
  ·intro y0 y1 y2
   unfold laws_heldIntSS.l0
   repeat' first
   | (with_reducible exact ih0 _ _ _)
   | (with_reducible exact laws_heldIntS.mono _ _ _)
   | (with_reducible exact LeO.refl _)
   | (with_reducible exact LeO.none _)
   | (with_reducible refine LeO.ite ?_ ?_)
   | (with_reducible refine LeO.bind ?_ (fun _ => ?_))
   | exact ih0 _ _ _
   | exact laws_heldIntS.mono _ _ _
   | exact LeO.none _
   | refine LeO.ite ?_ ?_
   | refine LeO.bind ?_ (fun _ => ?_)
theorem laws_heldIntSS.mono : ∀ a0 a1 k, LeO (laws_heldIntSS.f k a0 a1) (laws_heldIntSS.f (k + 1) a0 a1) := by
 intro a0 a1 k
 have ih0 := laws_heldIntSS.mono_l k
 unfold laws_heldIntSS.f
 repeat' first
   | (with_reducible exact ih0 _ _ _)
   | (with_reducible exact laws_heldIntS.mono _ _ _)
   | (with_reducible exact LeO.refl _)
   | (with_reducible exact LeO.none _)
   | (with_reducible refine LeO.ite ?_ ?_)
   | (with_reducible refine LeO.bind ?_ (fun _ => ?_))
   | exact ih0 _ _ _
   | exact laws_heldIntS.mono _ _ _
   | exact LeO.none _
   | refine LeO.ite ?_ ?_
   | refine LeO.bind ?_ (fun _ => ?_)
set_option maxHeartbeats 8000000 in
set_option maxRecDepth 100000 in
theorem laws_heldIntSS.calls (k : Nat) (A0 : Option Addr) (c0 : Nat) (l0 : List (List Int)) (a1 : Int) (r : Int) (w : World) (hr0 : Kd.C (Kd.slice 3 (Kd.int .i64)) w A0 l0.length l0) (hc0 : l0.length ≤ c0) (h : laws_heldIntSS.f k l0 a1 = some r) :
  Calls Tryd.prog 41 #[.slice A0 l0.length c0, .int .i64 a1] w fun e w' => e = .returned (.int .i64 r) ∧ Drawn0 w w' := by
 have HR0 := Aside0.mk hr0; have HC0 := Aside0.mk hc0; clear hr0 hc0
 have H : (laws_heldIntSS.l0 k l0 a1 0) = some r := h
 clear h
 have H' := Aside0.mk H
 clear H
 go_enter Tryd.func41, Tryd.ntmps41
 go_wp2
 go_loopg [1, 5] k (fun kq v1 v5 w' => ∃ (x1_1 : Int) (x5_1 : Int), v1 = .int .i64 x1_1 ∧ v5 = .int .i64 x5_1 ∧ Aside0 (laws_heldIntSS.l0 kq l0 x1_1 x5_1 = some r) ∧ Aside0 (kq ≤ k) ∧ Drawn0 w w')
 case atStart => exact ⟨(a1), (0), (by first | rfl | (simp; done) | (simp [*]; done)), (by first | rfl | (simp; done) | (simp [*]; done)), H', ⟨Nat.le_refl _⟩, by repeat (first | exact Drawn0.refl _ | apply Drawn0.step)⟩
 case round =>
  clear H'
  obtain ⟨x1_1, x5_1, rfl, rfl, HA, HK1, ⟨m1, rfl⟩⟩ := hrel
  cases gk with
  | zero => exact absurd HA.out (by simp [laws_heldIntSS.l0])
  | succ k1 =>
   have H := HA.out; clear HA
   simp only [laws_heldIntSS.l0] at H
   by_cases c3 : x5_1 < (l0.length : Int)
   ·rw [if_pos c3] at H
    have c3b0 : decide (x5_1 < (l0.length : Int)) = true := decide_eq_true c3
    clear c3
    by_cases c4 : 0 ≤ x5_1
    ·rw [if_pos c4] at H
     have c4b0 : decide (0 ≤ x5_1) = true := decide_eq_true c4
     clear c4; replace H := Option.bind_eq_some_iff.mp H; obtain ⟨t258, A50, H⟩ := H
     replace H : (if t258 < 0 then (some (-1)) else (laws_heldIntSS.l0 k1 l0 t258 (wrap64 (x5_1 + 1)))) = some r := H
     have A5 := Aside0.mk A50; clear A50
     by_cases c6 : t258 < 0
     ·rw [if_pos c6] at H
      have c6b0 : decide (t258 < 0) = true := decide_eq_true c6
      clear c6
      obtain rfl := Option.some.inj H
      have p257 : 0 ≤ (x5_1 : Int) := of_decide_eq_true (by first | (with_reducible assumption) | assumption)
      have q257 : x5_1 < (l0.length : Int) := of_decide_eq_true (by first | (with_reducible assumption) | assumption)
      obtain ⟨ad257, A257_0, c257_0, e257, hx257_0, hl257_0, hi257_0⟩ := at_L5 HR0.out x5_1 p257 q257
      cases e257
      have HR257_0 := Aside0.mk hi257_0; have HC257_0 := Aside0.mk hl257_0; clear hi257_0 hl257_0
      replace p257 := eq_true p257
      replace q257 := eq_true q257
      go_wp2_with (first | ((with_reducible refine gate_callee (f := 22) rfl ?_); refine goesL_ (some 17) rfl rfl Tryd.func22 (by kernel_rfl) rfl #[.slice A257_0 (rd_L5 l0 x5_1).length c257_0, .int .i64 x1_1] rfl gl_ ?_; (with_reducible refine (laws_heldIntS.calls k1 _ _ (rd_L5 l0 x5_1) x1_1 t258 _ ?side1 ?side2 A5.out).mono ?_); (case side1 => repeat (first | exact HR257_0.out | (with_reducible refine Kd.C_alloc ?_ _) | (with_reducible refine Kd.C_drewN ?_ _) | (with_reducible refine Kd.C_drew ?_))); (case side2 => exact HC257_0.out); rintro e w' ⟨rfl, ⟨nd, rfl⟩⟩; refine ⟨_, rfl, ?_⟩))
      go_ret
      exact ⟨by first | rfl | (simp; done) | (simp [*]; done), by repeat (first | exact Drawn0.refl _ | apply Drawn0.step)⟩
     ·rw [if_neg c6] at H
      have c6b0 : decide (t258 < 0) = false := decide_eq_false c6
      clear c6
      have H' := Aside0.mk H
      clear H
      have p257 : 0 ≤ (x5_1 : Int) := of_decide_eq_true (by first | (with_reducible assumption) | assumption)
      have q257 : x5_1 < (l0.length : Int) := of_decide_eq_true (by first | (with_reducible assumption) | assumption)
      obtain ⟨ad257, A257_0, c257_0, e257, hx257_0, hl257_0, hi257_0⟩ := at_L5 HR0.out x5_1 p257 q257
      cases e257
      have HR257_0 := Aside0.mk hi257_0; have HC257_0 := Aside0.mk hl257_0; clear hi257_0 hl257_0
      replace p257 := eq_true p257
      replace q257 := eq_true q257
      go_wp2_with (first | ((with_reducible refine gate_callee (f := 22) rfl ?_); refine goesL_ (some 17) rfl rfl Tryd.func22 (by kernel_rfl) rfl #[.slice A257_0 (rd_L5 l0 x5_1).length c257_0, .int .i64 x1_1] rfl gl_ ?_; (with_reducible refine (laws_heldIntS.calls k1 _ _ (rd_L5 l0 x5_1) x1_1 t258 _ ?side1 ?side2 A5.out).mono ?_); (case side1 => repeat (first | exact HR257_0.out | (with_reducible refine Kd.C_alloc ?_ _) | (with_reducible refine Kd.C_drewN ?_ _) | (with_reducible refine Kd.C_drew ?_))); (case side2 => exact HC257_0.out); rintro e w' ⟨rfl, ⟨nd, rfl⟩⟩; refine ⟨_, rfl, ?_⟩))
      go_roundg k1
      case measure => have := HK1.out; omega
      case rel => exact ⟨(t258), (wrap64 (x5_1 + 1)), (by first | rfl | (simp; done) | (simp [*]; done)), (by first | rfl | (simp; done) | (simp [*]; done)), H', ⟨by have := HK1.out; omega⟩, by repeat (first | exact Drawn0.refl _ | apply Drawn0.step)⟩
    ·rw [if_neg c4] at H
     exact absurd H (by simp)
   ·rw [if_neg c3] at H
    have c3b0 : decide (x5_1 < (l0.length : Int)) = false := decide_eq_false c3
    clear c3
    obtain rfl := Option.some.inj H
    go_wp2
    go_ret
    exact ⟨by first | rfl | (simp; done) | (simp [*]; done), by repeat (first | exact Drawn0.refl _ | apply Drawn0.step)⟩

/-! ### laws_FnExactSplitTeams: function 11 -/
mutual
def laws_FnExactSplitTeams.j0 : Nat → List (S55) → List (List Int) → Bool → List (S56) → List (List Int) → Bool → Bool → Option (Bool)
 | 0, _, _, _, _, _, _, _ => none
 | k + 1, x0, x4, x5, x6, x7, x8, x40 => if x40 = true then (none) else ((laws_toPersonS.f k x0).bind fun t275 => ((laws_eqPersonS.f k x6 t275).bind fun t278 => (if t278 = true then ((laws_markPersonS.f k x6 1).bind fun bt279 => (if bt279.1 < 0 then (laws_FnExactSplitTeams.j1 k x0 x4 x5 x7 true) else ((laws_eqIntSS.f k x7 x4).bind fun t281 => (if t281 = true then (laws_FnExactSplitTeams.j1 k x0 x4 x5 x7 (x8 != x5)) else (laws_FnExactSplitTeams.j1 k x0 x4 x5 x7 true))))) else (none))))
def laws_FnExactSplitTeams.j1 : Nat → List (S55) → List (List Int) → Bool → List (List Int) → Bool → Option (Bool)
 | 0, _, _, _, _, _ => none
 | k + 1, x0, x4, x5, x7, x61 => if x61 = true then (none) else ((laws_markIntSS.f k x7 1).bind fun bm => ((laws_heldIntSS.f k bm.2 1).bind fun t283 => (if t283 < 0 then (none) else (if t283 = bm.1 then ((laws_toPersonS.f k x0).bind fun t284 => ((impl_SplitTeams.f k t284).bind fun bt287 => ((laws_eqIntSS.f k bt287.1 x4).bind fun t291 => (if t291 = true then (laws_FnExactSplitTeams.j2 k bm.2 bm.1 (bt287.2 != x5)) else (laws_FnExactSplitTeams.j2 k bm.2 bm.1 true))))) else (none)))))
def laws_FnExactSplitTeams.j2 : Nat → List (List Int) → Int → Bool → Option (Bool)
 | 0, _, _, _ => none
 | k + 1, x7, x10, x87 => if x87 = true then (none) else ((laws_heldIntSS.f k x7 1).bind fun t292 => (if t292 < 0 then (none) else (if t292 = x10 then (some true) else (none))))
end
def laws_FnExactSplitTeams.f (k : Nat) (l0 : List (S55)) : Option (Bool) := (laws_szPersonS.f k l0 1048576).bind fun t259 => (if t259 < 0 then (some true) else ((laws_toPersonS.f k l0).bind fun t260 => ((spec_SplitTeams.f k t260).bind fun bt263 => ((laws_toPersonS.f k l0).bind fun t267 => ((impl_SplitTeams.f k t267).bind fun bt270 => ((laws_eqIntSS.f k bt270.1 bt263.1).bind fun t274 => (if t274 = true then (laws_FnExactSplitTeams.j0 k l0 bt263.1 bt263.2 t267 bt270.1 bt270.2 (bt270.2 != bt263.2)) else (laws_FnExactSplitTeams.j0 k l0 bt263.1 bt263.2 t267 bt270.1 bt270.2 true))))))))
theorem laws_FnExactSplitTeams.mono_l : ∀ k, (∀ y0 y1 y2 y3 y4 y5 y6, LeO (laws_FnExactSplitTeams.j0 k y0 y1 y2 y3 y4 y5 y6) (laws_FnExactSplitTeams.j0 (k + 1) y0 y1 y2 y3 y4 y5 y6)) ∧ (∀ y0 y1 y2 y3 y4, LeO (laws_FnExactSplitTeams.j1 k y0 y1 y2 y3 y4) (laws_FnExactSplitTeams.j1 (k + 1) y0 y1 y2 y3 y4)) ∧ (∀ y0 y1 y2, LeO (laws_FnExactSplitTeams.j2 k y0 y1 y2) (laws_FnExactSplitTeams.j2 (k + 1) y0 y1 y2))
 | 0 => ⟨fun _ _ _ _ _ _ _ r h => by simp [laws_FnExactSplitTeams.j0] at h, fun _ _ _ _ _ r h => by simp [laws_FnExactSplitTeams.j1] at h, fun _ _ _ r h => by simp [laws_FnExactSplitTeams.j2] at h⟩
 | k + 1 => by
  obtain ⟨ih0, ih1, ih2⟩ := laws_FnExactSplitTeams.mono_l k
  refine ⟨?_, ?_, ?_⟩
  ·intro y0 y1 y2 y3 y4 y5 y6
   unfold laws_FnExactSplitTeams.j0
   repeat' first
   | (with_reducible exact ih0 _ _ _ _ _ _ _)
   | (with_reducible exact ih1 _ _ _ _ _)
   | (with_reducible exact ih2 _ _ _)
   | (with_reducible exact impl_SplitTeams.mono _ _)
   | (with_reducible exact laws_eqIntSS.mono _ _ _)
   | (with_reducible exact laws_eqPersonS.mono _ _ _)
   | (with_reducible exact laws_heldIntSS.mono _ _ _)
   | (with_reducible exact laws_markIntSS.mono _ _ _)
   | (with_reducible exact laws_markPersonS.mono _ _ _)
   | (with_reducible exact laws_szPersonS.mono _ _ _)
   | (with_reducible exact laws_toPersonS.mono _ _)
   | (with_reducible exact spec_SplitTeams.mono _ _)
   | (with_reducible exact LeO.refl _)
   | (with_reducible exact LeO.none _)
   | (with_reducible refine LeO.ite ?_ ?_)
   | (with_reducible refine LeO.bind ?_ (fun _ => ?_))
   | exact ih0 _ _ _ _ _ _ _
   | exact ih1 _ _ _ _ _
   | exact ih2 _ _ _
   | exact impl_SplitTeams.mono _ _
   | exact laws_eqIntSS.mono _ _ _
   | exact laws_eqPersonS.mono _ _ _
   | exact laws_heldIntSS.mono _ _ _
   | exact laws_markIntSS.mono _ _ _
   | exact laws_markPersonS.mono _ _ _
   | exact laws_szPersonS.mono _ _ _
   | exact laws_toPersonS.mono _ _
   | exact spec_SplitTeams.mono _ _
   | exact LeO.none _
   | refine LeO.ite ?_ ?_
   | refine LeO.bind ?_ (fun _ => ?_)
  ·intro y0 y1 y2 y3 y4
   unfold laws_FnExactSplitTeams.j1
   repeat' first
   | (with_reducible exact ih0 _ _ _ _ _ _ _)
   | (with_reducible exact ih1 _ _ _ _ _)
   | (with_reducible exact ih2 _ _ _)
   | (with_reducible exact impl_SplitTeams.mono _ _)
   | (with_reducible exact laws_eqIntSS.mono _ _ _)
   | (with_reducible exact laws_eqPersonS.mono _ _ _)
   | (with_reducible exact laws_heldIntSS.mono _ _ _)
   | (with_reducible exact laws_markIntSS.mono _ _ _)
   | (with_reducible exact laws_markPersonS.mono _ _ _)
   | (with_reducible exact laws_szPersonS.mono _ _ _)
   | (with_reducible exact laws_toPersonS.mono _ _)
   | (with_reducible exact spec_SplitTeams.mono _ _)
   | (with_reducible exact LeO.refl _)
   | (with_reducible exact LeO.none _)
   | (with_reducible refine LeO.ite ?_ ?_)
   | (with_reducible refine LeO.bind ?_ (fun _ => ?_))
   | exact ih0 _ _ _ _ _ _ _
   | exact ih1 _ _ _ _ _
   | exact ih2 _ _ _
   | exact impl_SplitTeams.mono _ _
   | exact laws_eqIntSS.mono _ _ _
   | exact laws_eqPersonS.mono _ _ _
   | exact laws_heldIntSS.mono _ _ _
   | exact laws_markIntSS.mono _ _ _
   | exact laws_markPersonS.mono _ _ _
   | exact laws_szPersonS.mono _ _ _
   | exact laws_toPersonS.mono _ _
   | exact spec_SplitTeams.mono _ _
   | exact LeO.none _
   | refine LeO.ite ?_ ?_
   | refine LeO.bind ?_ (fun _ => ?_)
  ·intro y0 y1 y2
   unfold laws_FnExactSplitTeams.j2
   repeat' first
   | (with_reducible exact ih0 _ _ _ _ _ _ _)
   | (with_reducible exact ih1 _ _ _ _ _)
   | (with_reducible exact ih2 _ _ _)
   | (with_reducible exact impl_SplitTeams.mono _ _)
   | (with_reducible exact laws_eqIntSS.mono _ _ _)
   | (with_reducible exact laws_eqPersonS.mono _ _ _)
   | (with_reducible exact laws_heldIntSS.mono _ _ _)
   | (with_reducible exact laws_markIntSS.mono _ _ _)
   | (with_reducible exact laws_markPersonS.mono _ _ _)
   | (with_reducible exact laws_szPersonS.mono _ _ _)
   | (with_reducible exact laws_toPersonS.mono _ _)
   | (with_reducible exact spec_SplitTeams.mono _ _)
   | (with_reducible exact LeO.refl _)
   | (with_reducible exact LeO.none _)
   | (with_reducible refine LeO.ite ?_ ?_)
   | (with_reducible refine LeO.bind ?_ (fun _ => ?_))
   | exact ih0 _ _ _ _ _ _ _
   | exact ih1 _ _ _ _ _
   | exact ih2 _ _ _
   | exact impl_SplitTeams.mono _ _
   | exact laws_eqIntSS.mono _ _ _
   | exact laws_eqPersonS.mono _ _ _
   | exact laws_heldIntSS.mono _ _ _
   | exact laws_markIntSS.mono _ _ _
   | exact laws_markPersonS.mono _ _ _
   | exact laws_szPersonS.mono _ _ _
   | exact laws_toPersonS.mono _ _
   | exact spec_SplitTeams.mono _ _
   | exact LeO.none _
   | refine LeO.ite ?_ ?_
   | refine LeO.bind ?_ (fun _ => ?_)
theorem laws_FnExactSplitTeams.mono : ∀ a0 k, LeO (laws_FnExactSplitTeams.f k a0) (laws_FnExactSplitTeams.f (k + 1) a0) := by
 intro a0 k
 obtain ⟨ih0, ih1, ih2⟩ := laws_FnExactSplitTeams.mono_l k
 unfold laws_FnExactSplitTeams.f
 repeat' first
   | (with_reducible exact ih0 _ _ _ _ _ _ _)
   | (with_reducible exact ih1 _ _ _ _ _)
   | (with_reducible exact ih2 _ _ _)
   | (with_reducible exact impl_SplitTeams.mono _ _)
   | (with_reducible exact laws_eqIntSS.mono _ _ _)
   | (with_reducible exact laws_eqPersonS.mono _ _ _)
   | (with_reducible exact laws_heldIntSS.mono _ _ _)
   | (with_reducible exact laws_markIntSS.mono _ _ _)
   | (with_reducible exact laws_markPersonS.mono _ _ _)
   | (with_reducible exact laws_szPersonS.mono _ _ _)
   | (with_reducible exact laws_toPersonS.mono _ _)
   | (with_reducible exact spec_SplitTeams.mono _ _)
   | (with_reducible exact LeO.refl _)
   | (with_reducible exact LeO.none _)
   | (with_reducible refine LeO.ite ?_ ?_)
   | (with_reducible refine LeO.bind ?_ (fun _ => ?_))
   | exact ih0 _ _ _ _ _ _ _
   | exact ih1 _ _ _ _ _
   | exact ih2 _ _ _
   | exact impl_SplitTeams.mono _ _
   | exact laws_eqIntSS.mono _ _ _
   | exact laws_eqPersonS.mono _ _ _
   | exact laws_heldIntSS.mono _ _ _
   | exact laws_markIntSS.mono _ _ _
   | exact laws_markPersonS.mono _ _ _
   | exact laws_szPersonS.mono _ _ _
   | exact laws_toPersonS.mono _ _
   | exact spec_SplitTeams.mono _ _
   | exact LeO.none _
   | refine LeO.ite ?_ ?_
   | refine LeO.bind ?_ (fun _ => ?_)
/-- What was made ahead of a call and what the call made: two ranges of blocks. -/
theorem SS_part {α β : Type} {d : Kd α} {d' : Kd β} {e e' : Nat} {W w1 : World} {base : Nat} {ok ok' : Nat → Prop} {u v : Value} {xs : List α} {ys : List β} (hu : Kd.S d e W base ok u xs) (ho : Kd.S d' e' w1 W.heap.size ok' v ys) (hb : Below W.heap.size W w1) (hle : base ≤ W.heap.size) :
  ∃ N : Nat, Kd.S d e w1 base (fun k => True ∧ k < N) u xs ∧ Kd.S d' e' w1 base (fun k => True ∧ N ≤ k) v ys :=
 ⟨W.heap.size, Kd.S_mono (Kd.S_old hu hb) (fun _ h => ⟨trivial, h.2⟩), Kd.S_lower (Kd.S_mono (Kd.S_bound ho) (fun _ h => ⟨trivial, h.2.1⟩)) hle⟩
set_option maxHeartbeats 8000000 in
set_option maxRecDepth 100000 in
theorem laws_FnExactSplitTeams.calls (k : Nat) (A0 : Option Addr) (c0 : Nat) (l0 : List (S55)) (r : Bool) (w : World) (hr0 : Kd.C k55 w A0 l0.length l0) (hc0 : l0.length ≤ c0) (h : laws_FnExactSplitTeams.f k l0 = some r) :
  Calls Tryd.prog 11 #[.slice A0 l0.length c0] w fun e w' => e = .returned (.bool r) ∧ Below w.heap.size w w' := by
 have HR0 := Aside0.mk hr0; have HC0 := Aside0.mk hc0; clear hr0 hc0
 have HB := Aside0.mk (Below.refl w.heap.size w)
 have H : ((laws_szPersonS.f k l0 1048576).bind fun t259 => (if t259 < 0 then (some true) else ((laws_toPersonS.f k l0).bind fun t260 => ((spec_SplitTeams.f k t260).bind fun bt263 => ((laws_toPersonS.f k l0).bind fun t267 => ((impl_SplitTeams.f k t267).bind fun bt270 => ((laws_eqIntSS.f k bt270.1 bt263.1).bind fun t274 => (if t274 = true then (laws_FnExactSplitTeams.j0 k l0 bt263.1 bt263.2 t267 bt270.1 bt270.2 (bt270.2 != bt263.2)) else (laws_FnExactSplitTeams.j0 k l0 bt263.1 bt263.2 t267 bt270.1 bt270.2 true))))))))) = some r := h
 clear h; replace H := Option.bind_eq_some_iff.mp H; obtain ⟨t259, A20, H⟩ := H
 replace H : (if t259 < 0 then (some true) else ((laws_toPersonS.f k l0).bind fun t260 => ((spec_SplitTeams.f k t260).bind fun bt263 => ((laws_toPersonS.f k l0).bind fun t267 => ((impl_SplitTeams.f k t267).bind fun bt270 => ((laws_eqIntSS.f k bt270.1 bt263.1).bind fun t274 => (if t274 = true then (laws_FnExactSplitTeams.j0 k l0 bt263.1 bt263.2 t267 bt270.1 bt270.2 (bt270.2 != bt263.2)) else (laws_FnExactSplitTeams.j0 k l0 bt263.1 bt263.2 t267 bt270.1 bt270.2 true)))))))) = some r := H
 have A2 := Aside0.mk A20; clear A20
 by_cases c3 : t259 < 0
 ·rw [if_pos c3] at H
  have c3b0 : decide (t259 < 0) = true := decide_eq_true c3
  clear c3
  obtain rfl := Option.some.inj H
  go_enter Tryd.func11, Tryd.ntmps11
  go_wp2_with (first | ((with_reducible refine gate_callee (f := 12) rfl ?_); refine goesL_ (some 16) rfl rfl Tryd.func12 (by kernel_rfl) rfl #[.slice A0 l0.length c0, .int .i64 1048576] rfl gl_ ?_; (with_reducible refine (laws_szPersonS.calls k _ _ l0 1048576 t259 _ ?side1 ?side2 A2.out).mono ?_); (case side1 => repeat (first | exact HR0.out | (with_reducible refine Kd.C_alloc ?_ _) | (with_reducible refine Kd.C_drewN ?_ _) | (with_reducible refine Kd.C_drew ?_))); (case side2 => exact HC0.out); rintro e w4 ⟨rfl, hb⟩; refine ⟨_, rfl, ?_⟩; have n0_ := Aside0.mk (below_step bx_ hb); clear HB; have HB := n0_; clear n0_; (try clear hb); (try clear hk)))
  go_ret
  exact ⟨by first | rfl | (simp [errW_none, errW_some] <;> rfl) | (simp [*, errW_none, errW_some] <;> rfl), by repeat (first | (with_reducible first | exact HB.out | apply below_alloc | apply pw_below_drewN | apply below_drew1) | exact HB.out)⟩
 ·rw [if_neg c3] at H
  have c3b0 : decide (t259 < 0) = false := decide_eq_false c3
  clear c3; replace H := Option.bind_eq_some_iff.mp H; obtain ⟨t260, A50, H⟩ := H
  replace H : ((spec_SplitTeams.f k t260).bind fun bt263 => ((laws_toPersonS.f k l0).bind fun t267 => ((impl_SplitTeams.f k t267).bind fun bt270 => ((laws_eqIntSS.f k bt270.1 bt263.1).bind fun t274 => (if t274 = true then (laws_FnExactSplitTeams.j0 k l0 bt263.1 bt263.2 t267 bt270.1 bt270.2 (bt270.2 != bt263.2)) else (laws_FnExactSplitTeams.j0 k l0 bt263.1 bt263.2 t267 bt270.1 bt270.2 true)))))) = some r := H
  have A5 := Aside0.mk A50; clear A50; replace H := Option.bind_eq_some_iff.mp H; obtain ⟨⟨t263, t264⟩, A60, H⟩ := H
  replace H : ((laws_toPersonS.f k l0).bind fun t267 => ((impl_SplitTeams.f k t267).bind fun bt270 => ((laws_eqIntSS.f k bt270.1 t263).bind fun t274 => (if t274 = true then (laws_FnExactSplitTeams.j0 k l0 t263 t264 t267 bt270.1 bt270.2 (bt270.2 != t264)) else (laws_FnExactSplitTeams.j0 k l0 t263 t264 t267 bt270.1 bt270.2 true))))) = some r := H
  have A6 := Aside0.mk A60; clear A60; replace H := Option.bind_eq_some_iff.mp H; obtain ⟨t267, A70, H⟩ := H
  replace H : ((impl_SplitTeams.f k t267).bind fun bt270 => ((laws_eqIntSS.f k bt270.1 t263).bind fun t274 => (if t274 = true then (laws_FnExactSplitTeams.j0 k l0 t263 t264 t267 bt270.1 bt270.2 (bt270.2 != t264)) else (laws_FnExactSplitTeams.j0 k l0 t263 t264 t267 bt270.1 bt270.2 true)))) = some r := H
  have A7 := Aside0.mk A70; clear A70; replace H := Option.bind_eq_some_iff.mp H; obtain ⟨⟨t270, t273⟩, A80, H⟩ := H
  replace H : ((laws_eqIntSS.f k t270 t263).bind fun t274 => (if t274 = true then (laws_FnExactSplitTeams.j0 k l0 t263 t264 t267 t270 t273 (t273 != t264)) else (laws_FnExactSplitTeams.j0 k l0 t263 t264 t267 t270 t273 true))) = some r := H
  have A8 := Aside0.mk A80; clear A80; have HC9 := Aside0.mk H; clear H
  go_enter Tryd.func11, Tryd.ntmps11
  go_upto_region 8 with (first | ((with_reducible refine gate_callee (f := 12) rfl ?_); refine goesL_ (some 16) rfl rfl Tryd.func12 (by kernel_rfl) rfl #[.slice A0 l0.length c0, .int .i64 1048576] rfl gl_ ?_; (with_reducible refine (laws_szPersonS.calls k _ _ l0 1048576 t259 _ ?side1 ?side2 A2.out).mono ?_); (case side1 => repeat (first | exact HR0.out | (with_reducible refine Kd.C_alloc ?_ _) | (with_reducible refine Kd.C_drewN ?_ _) | (with_reducible refine Kd.C_drew ?_))); (case side2 => exact HC0.out); rintro e w10 ⟨rfl, hb⟩; refine ⟨_, rfl, ?_⟩; have n0_ := Aside0.mk (below_step bx_ hb); clear HB; have HB := n0_; clear n0_; (try clear hb); (try clear hk)) | ((with_reducible refine gate_callee (f := 14) rfl ?_); refine goesL_ (some 21) rfl rfl Tryd.func14 (by kernel_rfl) rfl #[.slice A0 l0.length c0] rfl gl_ ?_; (with_reducible refine (laws_toPersonS.calls k _ _ l0 t260 _ ?side1 ?side2 A5.out).mono ?_); (case side1 => repeat (first | exact (Kd.C_below HR0.out HB.out) | (with_reducible refine Kd.C_alloc ?_ _) | (with_reducible refine Kd.C_drewN ?_ _) | (with_reducible refine Kd.C_drew ?_))); (case side2 => exact HC0.out); rintro e w11 ⟨v261, rfl, ho0, hb⟩; refine ⟨_, rfl, ?_⟩; have n0_ := Aside0.mk (Kd.R_lower ho0 (below_size bx_)); have n1_ := Aside0.mk (below_step bx_ hb); clear HB; have HO262 := n0_; have HB := n1_; clear n0_ n1_; (try clear hb); (try clear hk); (try clear ho0); obtain ⟨Ao12, co12, eo12⟩ := Kd.R_slice HO262.out; subst eo12) | ((with_reducible refine gate_callee (f := 37) rfl ?_); refine goesL_ (some 22) rfl rfl Tryd.func37 (by kernel_rfl) rfl #[.slice Ao12 t260.length co12] rfl gl_ ?_; (with_reducible refine (spec_SplitTeams.calls k _ _ t260 t263 t264 _ ?side1 ?side2 A6.out).mono ?_); (case side1 => repeat (first | exact (Kd.R_reads' HO262.out).2.2 | (with_reducible refine Kd.C_alloc ?_ _) | (with_reducible refine Kd.C_drewN ?_ _) | (with_reducible refine Kd.C_drew ?_))); (case side2 => exact (Kd.R_reads' HO262.out).2.1); rintro e w13 ⟨v265, rfl, ho0, hb⟩; refine ⟨_, rfl, ?_⟩; have n0_ := Aside0.mk (Kd.R_below (kr_ HO262) hb); have n1_ := Aside0.mk (Kd.S_lower ho0 (below_size bx_)); have n2_ := Aside0.mk (below_step bx_ hb); clear HO262; clear HB; have HO262 := n0_; have HO266 := n1_; have HB := n2_; clear n0_ n1_ n2_; (try clear hb); (try clear hk); (try clear ho0)) | ((with_reducible refine gate_callee (f := 14) rfl ?_); refine goesL_ (some 26) rfl rfl Tryd.func14 (by kernel_rfl) rfl #[.slice A0 l0.length c0] rfl gl_ ?_; (with_reducible refine (laws_toPersonS.calls k _ _ l0 t267 _ ?side1 ?side2 A7.out).mono ?_); (case side1 => repeat (first | exact (Kd.C_below HR0.out HB.out) | (with_reducible refine Kd.C_alloc ?_ _) | (with_reducible refine Kd.C_drewN ?_ _) | (with_reducible refine Kd.C_drew ?_))); (case side2 => exact HC0.out); rintro e w14 ⟨v268, rfl, ho0, hb⟩; refine ⟨_, rfl, ?_⟩; have n0_ := Aside0.mk (Kd.R_elder' (kr_ HO262) (Kd.R_base ho0) hb); have n1_ := Aside0.mk (Kd.S_below (by (with_reducible repeat (first | apply Kd.S_alloc | apply Kd.S_drewN | apply Kd.S_drew)); exact HO266.out) hb); have n2_ := Aside0.mk (Kd.R_lower (Kd.R_new' ho0 (Kd.R_lt (kr_ HO262))) (below_size bx_)); have n3_ := Aside0.mk (below_step bx_ hb); clear HO262; clear HO266; clear HB; have HO262 := n0_; have HO266 := n1_; have HO269 := n2_; have HB := n3_; clear n0_ n1_ n2_ n3_; (try clear hb); (try clear hk); (try clear ho0); obtain ⟨Ao15, co15, eo15⟩ := Kd.R_slice HO269.out; subst eo15) | ((with_reducible refine gate_callee (f := 38) rfl ?_); refine goesL_ (some 29) rfl rfl Tryd.func38 (by kernel_rfl) rfl #[.slice Ao15 t267.length co15] rfl gl_ ?_; (with_reducible refine (impl_SplitTeams.calls k (fun k_ => some k_ = (.slice Ao15 t267.length co15 : Value).ownBlock) _ _ t267 t270 t273 _ ?side1 A8.out).mono ?_); (case side1 => exact Kd.R_V (Kd.R_tight rfl (Kd.R_apart' (HO269.out) (Kd.S_typed HO266.out) (by decide)))); rintro e w16 ⟨v271, rfl, ho0, hb⟩; refine ⟨_, rfl, ?_⟩; obtain ⟨N16, hx_, hy_⟩ := SS_part (by (with_reducible repeat (first | apply Kd.S_alloc | apply Kd.S_drewN | apply Kd.S_drew)); exact HO266.out) ho0 hb (below_size bx_); have n0_ := Aside0.mk (Kd.R_below (kr_ HO262) hb); have n1_ := Aside0.mk hx_; have n2_ := Aside0.mk (Kd.R_below (kr_ HO269) hb); have n3_ := Aside0.mk hy_; clear hx_ hy_; have n4_ := Aside0.mk (below_step bx_ hb); clear HO262; clear HO266; clear HO269; clear HB; have HO262 := n0_; have HO266 := n1_; have HO269 := n2_; have HO272 := n3_; have HB := n4_; clear n0_ n1_ n2_ n3_ n4_; (try clear hb); (try clear hk); (try clear ho0)))
  (try simp only [Act.put, List.setIfInBounds_toArray, List.set_cons_zero, List.set_cons_succ])
  go_cut [40] (fun v40 wc => ∃ (kq : Nat) (x40_8 : Bool), v40 = .bool x40_8 ∧ Aside0 (laws_FnExactSplitTeams.j0 kq l0 t263 t264 t267 t270 t273 x40_8 = some r) ∧ Aside0 (kq ≤ k) ∧ Aside0 (Kd.S (Kd.slice 3 (Kd.int .i64)) 29 wc w.heap.size (fun k_ => k_ < N16) v265 t263) ∧ Aside0 (Kd.R k56 56 wc w.heap.size (fun _ => True) (.slice Ao15 t267.length co15) t267) ∧ Aside0 (Kd.S (Kd.slice 3 (Kd.int .i64)) 29 wc w.heap.size (fun k_ => N16 ≤ k_) v271 t270) ∧ Aside0 (Below w.heap.size w wc))
  case first =>
   have H := HC9.out; clear HC9; replace H := Option.bind_eq_some_iff.mp H; obtain ⟨t274, A170, H⟩ := H
   replace H : (if t274 = true then (laws_FnExactSplitTeams.j0 k l0 t263 t264 t267 t270 t273 (t273 != t264)) else (laws_FnExactSplitTeams.j0 k l0 t263 t264 t267 t270 t273 true)) = some r := H
   have A17 := Aside0.mk A170; clear A170
   by_cases c18 : t274 = true
   ·subst c18
    have H1 : (laws_FnExactSplitTeams.j0 k l0 t263 t264 t267 t270 t273 (t273 != t264)) = some r := by rw [if_pos rfl] at H; exact H
    clear H; have H := H1; clear H1
    have H' := Aside0.mk H
    clear H
    obtain ⟨Ao19, co19, eo19⟩ := Kd.S_slice HO272.out
    subst eo19
    obtain ⟨Ao20, co20, eo20⟩ := Kd.S_slice HO266.out
    subst eo20
    go_wp2_with (first | ((with_reducible refine gate_callee (f := 39) rfl ?_); refine goesL_ (some 34) rfl rfl Tryd.func39 (by kernel_rfl) rfl #[.slice Ao19 t270.length co19, .slice Ao20 t263.length co20] rfl gl_ ?_; (with_reducible refine (laws_eqIntSS.calls k _ _ t270 _ _ t263 true _ ?side1 ?side2 ?side3 ?side4 A17.out).mono ?_); (case side1 => repeat (first | exact (Kd.S_reads' HO272.out).2.2 | (with_reducible refine Kd.C_alloc ?_ _) | (with_reducible refine Kd.C_drewN ?_ _) | (with_reducible refine Kd.C_drew ?_))); (case side2 => exact (Kd.S_reads' HO272.out).2.1); (case side3 => repeat (first | exact (Kd.S_reads' HO266.out).2.2 | (with_reducible refine Kd.C_alloc ?_ _) | (with_reducible refine Kd.C_drewN ?_ _) | (with_reducible refine Kd.C_drew ?_))); (case side4 => exact (Kd.S_reads' HO266.out).2.1); rintro e w' ⟨rfl, ⟨nd, rfl⟩⟩; refine ⟨_, rfl, ?_⟩))
    go_meet
    case rel => exact ⟨_, ((t273 != t264)), (by first | rfl | (simp; done) | (simp [*]; done)), H', ⟨by first | omega | exact Nat.le_refl _⟩, ⟨by (with_reducible repeat (first | apply Kd.S_alloc | apply Kd.S_drewN | apply Kd.S_drew)); exact Kd.S_mono HO266.out (fun _ hk => hk.2)⟩, ⟨by (with_reducible repeat (first | apply Kd.R_alloc | apply Kd.R_drewN | apply Kd.R_drew)); exact Kd.R_mono HO269.out (fun _ hk => trivial)⟩, ⟨by (with_reducible repeat (first | apply Kd.S_alloc | apply Kd.S_drewN | apply Kd.S_drew)); exact Kd.S_mono HO272.out (fun _ hk => hk.2)⟩, ⟨by repeat (first | (with_reducible first | exact HB.out | apply below_alloc | apply pw_below_drewN | apply below_drew1) | exact HB.out)⟩⟩
   ·replace c18 := Bool.eq_false_iff.mpr c18
    subst c18
    have H1 : (laws_FnExactSplitTeams.j0 k l0 t263 t264 t267 t270 t273 true) = some r := by rw [if_neg (show ¬ (false = true) by decide)] at H; exact H
    clear H; have H := H1; clear H1
    have H' := Aside0.mk H
    clear H
    obtain ⟨Ao21, co21, eo21⟩ := Kd.S_slice HO272.out
    subst eo21
    obtain ⟨Ao22, co22, eo22⟩ := Kd.S_slice HO266.out
    subst eo22
    go_wp2_with (first | ((with_reducible refine gate_callee (f := 39) rfl ?_); refine goesL_ (some 34) rfl rfl Tryd.func39 (by kernel_rfl) rfl #[.slice Ao21 t270.length co21, .slice Ao22 t263.length co22] rfl gl_ ?_; (with_reducible refine (laws_eqIntSS.calls k _ _ t270 _ _ t263 false _ ?side1 ?side2 ?side3 ?side4 A17.out).mono ?_); (case side1 => repeat (first | exact (Kd.S_reads' HO272.out).2.2 | (with_reducible refine Kd.C_alloc ?_ _) | (with_reducible refine Kd.C_drewN ?_ _) | (with_reducible refine Kd.C_drew ?_))); (case side2 => exact (Kd.S_reads' HO272.out).2.1); (case side3 => repeat (first | exact (Kd.S_reads' HO266.out).2.2 | (with_reducible refine Kd.C_alloc ?_ _) | (with_reducible refine Kd.C_drewN ?_ _) | (with_reducible refine Kd.C_drew ?_))); (case side4 => exact (Kd.S_reads' HO266.out).2.1); rintro e w' ⟨rfl, ⟨nd, rfl⟩⟩; refine ⟨_, rfl, ?_⟩))
    go_meet
    case rel => exact ⟨_, (true), (by first | rfl | (simp; done) | (simp [*]; done)), H', ⟨by first | omega | exact Nat.le_refl _⟩, ⟨by (with_reducible repeat (first | apply Kd.S_alloc | apply Kd.S_drewN | apply Kd.S_drew)); exact Kd.S_mono HO266.out (fun _ hk => hk.2)⟩, ⟨by (with_reducible repeat (first | apply Kd.R_alloc | apply Kd.R_drewN | apply Kd.R_drew)); exact Kd.R_mono HO269.out (fun _ hk => trivial)⟩, ⟨by (with_reducible repeat (first | apply Kd.S_alloc | apply Kd.S_drewN | apply Kd.S_drew)); exact Kd.S_mono HO272.out (fun _ hk => hk.2)⟩, ⟨by repeat (first | (with_reducible first | exact HB.out | apply below_alloc | apply pw_below_drewN | apply below_drew1) | exact HB.out)⟩⟩
  case rest =>
   clear HC9; (try clear c3); (try clear c3b0); (try clear c18); obtain ⟨kq, x40_8, rfl, HA, HJ8, HO_4, HO_6, HO_7, HB⟩ := hcut
   cases kq with
   | zero => exact absurd HA.out (by simp [laws_FnExactSplitTeams.j0])
   | succ kj8 =>
    have H := HA.out; clear HA
    simp only [laws_FnExactSplitTeams.j0] at H
    by_cases c23 : x40_8 = true
    ·subst c23
     have H1 : (none) = some r := by rw [if_pos rfl] at H; exact H
     clear H; have H := H1; clear H1
     exact absurd H (by simp)
    ·replace c23 := Bool.eq_false_iff.mpr c23
     subst c23
     have H1 : ((laws_toPersonS.f kj8 l0).bind fun t275 => ((laws_eqPersonS.f kj8 t267 t275).bind fun t278 => (if t278 = true then ((laws_markPersonS.f kj8 t267 1).bind fun bt279 => (if bt279.1 < 0 then (laws_FnExactSplitTeams.j1 kj8 l0 t263 t264 t270 true) else ((laws_eqIntSS.f kj8 t270 t263).bind fun t281 => (if t281 = true then (laws_FnExactSplitTeams.j1 kj8 l0 t263 t264 t270 (t273 != t264)) else (laws_FnExactSplitTeams.j1 kj8 l0 t263 t264 t270 true))))) else (none)))) = some r := by rw [if_neg (show ¬ (false = true) by decide)] at H; exact H
     clear H; have H := H1; clear H1; replace H := Option.bind_eq_some_iff.mp H; obtain ⟨t275, A240, H⟩ := H
     replace H : ((laws_eqPersonS.f kj8 t267 t275).bind fun t278 => (if t278 = true then ((laws_markPersonS.f kj8 t267 1).bind fun bt279 => (if bt279.1 < 0 then (laws_FnExactSplitTeams.j1 kj8 l0 t263 t264 t270 true) else ((laws_eqIntSS.f kj8 t270 t263).bind fun t281 => (if t281 = true then (laws_FnExactSplitTeams.j1 kj8 l0 t263 t264 t270 (t273 != t264)) else (laws_FnExactSplitTeams.j1 kj8 l0 t263 t264 t270 true))))) else (none))) = some r := H
     have A24 := Aside0.mk A240; clear A240; replace H := Option.bind_eq_some_iff.mp H; obtain ⟨t278, A250, H⟩ := H
     replace H : (if t278 = true then ((laws_markPersonS.f kj8 t267 1).bind fun bt279 => (if bt279.1 < 0 then (laws_FnExactSplitTeams.j1 kj8 l0 t263 t264 t270 true) else ((laws_eqIntSS.f kj8 t270 t263).bind fun t281 => (if t281 = true then (laws_FnExactSplitTeams.j1 kj8 l0 t263 t264 t270 (t273 != t264)) else (laws_FnExactSplitTeams.j1 kj8 l0 t263 t264 t270 true))))) else (none)) = some r := H
     have A25 := Aside0.mk A250; clear A250
     by_cases c26 : t278 = true
     ·subst c26
      have H1 : ((laws_markPersonS.f kj8 t267 1).bind fun bt279 => (if bt279.1 < 0 then (laws_FnExactSplitTeams.j1 kj8 l0 t263 t264 t270 true) else ((laws_eqIntSS.f kj8 t270 t263).bind fun t281 => (if t281 = true then (laws_FnExactSplitTeams.j1 kj8 l0 t263 t264 t270 (t273 != t264)) else (laws_FnExactSplitTeams.j1 kj8 l0 t263 t264 t270 true))))) = some r := by rw [if_pos rfl] at H; exact H
      clear H; have H := H1; clear H1; replace H := Option.bind_eq_some_iff.mp H; obtain ⟨⟨t279, t280⟩, A270, H⟩ := H
      replace H : (if t279 < 0 then (laws_FnExactSplitTeams.j1 kj8 l0 t263 t264 t270 true) else ((laws_eqIntSS.f kj8 t270 t263).bind fun t281 => (if t281 = true then (laws_FnExactSplitTeams.j1 kj8 l0 t263 t264 t270 (t273 != t264)) else (laws_FnExactSplitTeams.j1 kj8 l0 t263 t264 t270 true)))) = some r := H
      have A27 := Aside0.mk A270; clear A270; have HC28 := Aside0.mk H; clear H
      go_upto_region 14 with (first | ((with_reducible refine gate_callee (f := 14) rfl ?_); refine goesL_ (some 43) rfl rfl Tryd.func14 (by kernel_rfl) rfl #[.slice A0 l0.length c0] rfl gl_ ?_; (with_reducible refine (laws_toPersonS.calls kj8 _ _ l0 t275 _ ?side1 ?side2 A24.out).mono ?_); (case side1 => repeat (first | exact (Kd.C_below HR0.out HB.out) | (with_reducible refine Kd.C_alloc ?_ _) | (with_reducible refine Kd.C_drewN ?_ _) | (with_reducible refine Kd.C_drew ?_))); (case side2 => exact HC0.out); rintro e w29 ⟨v276, rfl, ho0, hb⟩; refine ⟨_, rfl, ?_⟩; have n0_ := Aside0.mk (Kd.S_below (by (with_reducible repeat (first | apply Kd.S_alloc | apply Kd.S_drewN | apply Kd.S_drew)); exact HO_4.out) hb); have n1_ := Aside0.mk (Kd.R_elder' (kr_ HO_6) (Kd.R_base ho0) hb); have n2_ := Aside0.mk (Kd.S_below (by (with_reducible repeat (first | apply Kd.S_alloc | apply Kd.S_drewN | apply Kd.S_drew)); exact HO_7.out) hb); have n3_ := Aside0.mk (Kd.R_lower (Kd.R_new' ho0 (Kd.R_lt (kr_ HO_6))) (below_size bx_)); have n4_ := Aside0.mk (below_step bx_ hb); clear HO_4; clear HO_6; clear HO_7; clear HB; have HO_4 := n0_; have HO_6 := n1_; have HO_7 := n2_; have HO277 := n3_; have HB := n4_; clear n0_ n1_ n2_ n3_ n4_; (try clear hb); (try clear hk); (try clear ho0); obtain ⟨Ao30, co30, eo30⟩ := Kd.R_slice HO277.out; subst eo30) | ((with_reducible refine gate_callee (f := 16) rfl ?_); refine goesL_ (some 44) rfl rfl Tryd.func16 (by kernel_rfl) rfl #[.slice Ao15 t267.length co15, .slice Ao30 t275.length co30] rfl gl_ ?_; (with_reducible refine (laws_eqPersonS.calls kj8 _ _ t267 _ _ t275 true _ ?side1 ?side2 ?side3 ?side4 A25.out).mono ?_); (case side1 => repeat (first | exact (Kd.R_reads' HO_6.out).2.2 | (with_reducible refine Kd.C_alloc ?_ _) | (with_reducible refine Kd.C_drewN ?_ _) | (with_reducible refine Kd.C_drew ?_))); (case side2 => exact (Kd.R_reads' HO_6.out).2.1); (case side3 => repeat (first | exact (Kd.R_reads' HO277.out).2.2 | (with_reducible refine Kd.C_alloc ?_ _) | (with_reducible refine Kd.C_drewN ?_ _) | (with_reducible refine Kd.C_drew ?_))); (case side4 => exact (Kd.R_reads' HO277.out).2.1); rintro e w31 ⟨rfl, hb⟩; refine ⟨_, rfl, ?_⟩; have n0_ := Aside0.mk (Kd.S_below (by (with_reducible repeat (first | apply Kd.S_alloc | apply Kd.S_drewN | apply Kd.S_drew)); exact HO_4.out) hb); have n1_ := Aside0.mk (Kd.R_below (kr_ HO_6) hb); have n2_ := Aside0.mk (Kd.S_below (by (with_reducible repeat (first | apply Kd.S_alloc | apply Kd.S_drewN | apply Kd.S_drew)); exact HO_7.out) hb); have n3_ := Aside0.mk (Kd.R_below (kr_ HO277) hb); have n4_ := Aside0.mk (below_step bx_ hb); clear HO_4; clear HO_6; clear HO_7; clear HO277; clear HB; have HO_4 := n0_; have HO_6 := n1_; have HO_7 := n2_; have HO277 := n3_; have HB := n4_; clear n0_ n1_ n2_ n3_ n4_; (try clear hb); (try clear hk)) | ((with_reducible refine gate_callee (f := 20) rfl ?_); refine goesL_ (some 48) rfl rfl Tryd.func20 (by kernel_rfl) rfl #[.slice Ao15 t267.length co15, .int .i64 1] rfl gl_ ?_; (with_reducible refine (laws_markPersonS.calls kj8 (fun k_ => some k_ = (.slice Ao15 t267.length co15 : Value).ownBlock) (.slice Ao15 t267.length co15) t267 1 t279 t280 w _ ?side1 ?side2 A27.out).mono ?_); (case side1 => repeat (first | (with_reducible first | exact HB.out | apply below_alloc | apply pw_below_drewN | apply below_drew1) | exact HB.out)); (case side2 => exact Kd.R_tight rfl HO_6.out); rintro e w32 ⟨rfl, hy0, hb, hkp⟩; refine ⟨_, rfl, ?_⟩; have n0_ := Aside0.mk (Kd.S_mono (ok' := fun k_ => k_ < N16) (Kd.S_keptB ((Kd.S_apart' HO_4.out (Kd.R_typed HO_6.out) (by decide))) hkp (fun k_ hk_ hs_ => (hk_.2) hs_)) (fun k_ hk_ => hk_.1.1)); have n1_ := Aside0.mk (Kd.R_reok rfl hy0 (fun k_ e_ => HO_6.out.1 k_ e_)); have n2_ := Aside0.mk (Kd.S_mono (ok' := fun k_ => N16 ≤ k_) (Kd.S_keptB ((Kd.S_apart' HO_7.out (Kd.R_typed HO_6.out) (by decide))) hkp (fun k_ hk_ hs_ => (hk_.2) hs_)) (fun k_ hk_ => hk_.1.1)); have n3_ := Aside0.mk (Kd.R_mono (ok' := fun k_ => some k_ ≠ (.slice Ao15 t267.length co15 : Value).ownBlock) (Kd.R_keptB (HO277.out) hkp (fun k_ hk_ hs_ => (hk_.2) hs_)) (fun k_ hk_ => hk_.1.2)); have n4_ := Aside0.mk (hb); clear HO_4; clear HO_6; clear HO_7; clear HO277; clear HB; have HO_4 := n0_; have HO_6 := n1_; have HO_7 := n2_; have HO277 := n3_; have HB := n4_; clear n0_ n1_ n2_ n3_ n4_; (try clear hb); (try clear hkp); (try clear hy0)))
      (try simp only [Act.put, List.setIfInBounds_toArray, List.set_cons_zero, List.set_cons_succ])
      go_cut [61] (fun v61 wc => ∃ (kq : Nat) (x61_27 : Bool), v61 = .bool x61_27 ∧ Aside0 (laws_FnExactSplitTeams.j1 kq l0 t263 t264 t270 x61_27 = some r) ∧ Aside0 (kq ≤ kj8) ∧ Aside0 (Kd.S (Kd.slice 3 (Kd.int .i64)) 29 wc w.heap.size (fun k_ => k_ < N16) v265 t263) ∧ Aside0 (Kd.S (Kd.slice 3 (Kd.int .i64)) 29 wc w.heap.size (fun k_ => N16 ≤ k_) v271 t270) ∧ Aside0 (Below w.heap.size w wc))
      case first =>
       have H := HC28.out; clear HC28
       by_cases c33 : t279 < 0
       ·rw [if_pos c33] at H
        have c33b0 : decide (t279 < 0) = true := decide_eq_true c33
        clear c33
        (first | rw [c33b0] | (simp only [i64_w, i32_w]; rw [c33b0]) | skip)
        have H' := Aside0.mk H
        clear H
        go_wp2
        go_meet
        case rel => exact ⟨_, (true), (by first | rfl | (simp; done) | (simp [*]; done)), H', ⟨by have := HJ8.out; first | omega | exact Nat.le_refl _⟩, ⟨by (with_reducible repeat (first | apply Kd.S_alloc | apply Kd.S_drewN | apply Kd.S_drew)); exact HO_4.out⟩, ⟨by (with_reducible repeat (first | apply Kd.S_alloc | apply Kd.S_drewN | apply Kd.S_drew)); exact HO_7.out⟩, ⟨by repeat (first | (with_reducible first | exact HB.out | apply below_alloc | apply pw_below_drewN | apply below_drew1) | exact HB.out)⟩⟩
       ·rw [if_neg c33] at H
        have c33b0 : decide (t279 < 0) = false := decide_eq_false c33
        clear c33
        (first | rw [c33b0] | (simp only [i64_w, i32_w]; rw [c33b0]) | skip)
        replace H := Option.bind_eq_some_iff.mp H; obtain ⟨t281, A340, H⟩ := H
        replace H : (if t281 = true then (laws_FnExactSplitTeams.j1 kj8 l0 t263 t264 t270 (t273 != t264)) else (laws_FnExactSplitTeams.j1 kj8 l0 t263 t264 t270 true)) = some r := H
        have A34 := Aside0.mk A340; clear A340
        by_cases c35 : t281 = true
        ·subst c35
         have H1 : (laws_FnExactSplitTeams.j1 kj8 l0 t263 t264 t270 (t273 != t264)) = some r := by rw [if_pos rfl] at H; exact H
         clear H; have H := H1; clear H1
         have H' := Aside0.mk H
         clear H
         obtain ⟨Ao36, co36, eo36⟩ := Kd.S_slice HO_7.out
         subst eo36
         obtain ⟨Ao37, co37, eo37⟩ := Kd.S_slice HO_4.out
         subst eo37
         go_wp2_with (first | (go_at_call 39; (with_reducible refine (laws_eqIntSS.calls kj8 _ _ t270 _ _ t263 true _ ?side1 ?side2 ?side3 ?side4 A34.out).mono ?_); (case side1 => repeat (first | exact (Kd.S_reads' HO_7.out).2.2 | (with_reducible refine Kd.C_alloc ?_ _) | (with_reducible refine Kd.C_drewN ?_ _) | (with_reducible refine Kd.C_drew ?_))); (case side2 => exact (Kd.S_reads' HO_7.out).2.1); (case side3 => repeat (first | exact (Kd.S_reads' HO_4.out).2.2 | (with_reducible refine Kd.C_alloc ?_ _) | (with_reducible refine Kd.C_drewN ?_ _) | (with_reducible refine Kd.C_drew ?_))); (case side4 => exact (Kd.S_reads' HO_4.out).2.1); rintro e w' ⟨rfl, ⟨nd, rfl⟩⟩))
         go_meet
         case rel => exact ⟨_, ((t273 != t264)), (by first | rfl | (simp; done) | (simp [*]; done)), H', ⟨by have := HJ8.out; first | omega | exact Nat.le_refl _⟩, ⟨by (with_reducible repeat (first | apply Kd.S_alloc | apply Kd.S_drewN | apply Kd.S_drew)); exact HO_4.out⟩, ⟨by (with_reducible repeat (first | apply Kd.S_alloc | apply Kd.S_drewN | apply Kd.S_drew)); exact HO_7.out⟩, ⟨by repeat (first | (with_reducible first | exact HB.out | apply below_alloc | apply pw_below_drewN | apply below_drew1) | exact HB.out)⟩⟩
        ·replace c35 := Bool.eq_false_iff.mpr c35
         subst c35
         have H1 : (laws_FnExactSplitTeams.j1 kj8 l0 t263 t264 t270 true) = some r := by rw [if_neg (show ¬ (false = true) by decide)] at H; exact H
         clear H; have H := H1; clear H1
         have H' := Aside0.mk H
         clear H
         obtain ⟨Ao38, co38, eo38⟩ := Kd.S_slice HO_7.out
         subst eo38
         obtain ⟨Ao39, co39, eo39⟩ := Kd.S_slice HO_4.out
         subst eo39
         go_wp2_with (first | (go_at_call 39; (with_reducible refine (laws_eqIntSS.calls kj8 _ _ t270 _ _ t263 false _ ?side1 ?side2 ?side3 ?side4 A34.out).mono ?_); (case side1 => repeat (first | exact (Kd.S_reads' HO_7.out).2.2 | (with_reducible refine Kd.C_alloc ?_ _) | (with_reducible refine Kd.C_drewN ?_ _) | (with_reducible refine Kd.C_drew ?_))); (case side2 => exact (Kd.S_reads' HO_7.out).2.1); (case side3 => repeat (first | exact (Kd.S_reads' HO_4.out).2.2 | (with_reducible refine Kd.C_alloc ?_ _) | (with_reducible refine Kd.C_drewN ?_ _) | (with_reducible refine Kd.C_drew ?_))); (case side4 => exact (Kd.S_reads' HO_4.out).2.1); rintro e w' ⟨rfl, ⟨nd, rfl⟩⟩))
         go_meet
         case rel => exact ⟨_, (true), (by first | rfl | (simp; done) | (simp [*]; done)), H', ⟨by have := HJ8.out; first | omega | exact Nat.le_refl _⟩, ⟨by (with_reducible repeat (first | apply Kd.S_alloc | apply Kd.S_drewN | apply Kd.S_drew)); exact HO_4.out⟩, ⟨by (with_reducible repeat (first | apply Kd.S_alloc | apply Kd.S_drewN | apply Kd.S_drew)); exact HO_7.out⟩, ⟨by repeat (first | (with_reducible first | exact HB.out | apply below_alloc | apply pw_below_drewN | apply below_drew1) | exact HB.out)⟩⟩
      case rest =>
       clear HC28; (try clear c3); (try clear c3b0); (try clear c18); (try clear c23); (try clear c26); (try clear c33); (try clear c33b0); (try clear c35); obtain ⟨kq, x61_27, rfl, HA, HJ27, HO_4, HO_7, HB⟩ := hcut
       cases kq with
       | zero => exact absurd HA.out (by simp [laws_FnExactSplitTeams.j1])
       | succ kj27 =>
        have H := HA.out; clear HA
        simp only [laws_FnExactSplitTeams.j1] at H
        by_cases c40 : x61_27 = true
        ·subst c40
         have H1 : (none) = some r := by rw [if_pos rfl] at H; exact H
         clear H; have H := H1; clear H1
         exact absurd H (by simp)
        ·replace c40 := Bool.eq_false_iff.mpr c40
         subst c40
         have H1 : ((laws_markIntSS.f kj27 t270 1).bind fun bm => ((laws_heldIntSS.f kj27 bm.2 1).bind fun t283 => (if t283 < 0 then (none) else (if t283 = bm.1 then ((laws_toPersonS.f kj27 l0).bind fun t284 => ((impl_SplitTeams.f kj27 t284).bind fun bt287 => ((laws_eqIntSS.f kj27 bt287.1 t263).bind fun t291 => (if t291 = true then (laws_FnExactSplitTeams.j2 kj27 bm.2 bm.1 (bt287.2 != t264)) else (laws_FnExactSplitTeams.j2 kj27 bm.2 bm.1 true))))) else (none))))) = some r := by rw [if_neg (show ¬ (false = true) by decide)] at H; exact H
         clear H; have H := H1; clear H1; replace H := Option.bind_eq_some_iff.mp H; obtain ⟨⟨t282, t900⟩, A410, H⟩ := H
         replace H : ((laws_heldIntSS.f kj27 t900 1).bind fun t283 => (if t283 < 0 then (none) else (if t283 = t282 then ((laws_toPersonS.f kj27 l0).bind fun t284 => ((impl_SplitTeams.f kj27 t284).bind fun bt287 => ((laws_eqIntSS.f kj27 bt287.1 t263).bind fun t291 => (if t291 = true then (laws_FnExactSplitTeams.j2 kj27 t900 t282 (bt287.2 != t264)) else (laws_FnExactSplitTeams.j2 kj27 t900 t282 true))))) else (none)))) = some r := H
         have A41 := Aside0.mk A410; clear A410; replace H := Option.bind_eq_some_iff.mp H; obtain ⟨t283, A420, H⟩ := H
         replace H : (if t283 < 0 then (none) else (if t283 = t282 then ((laws_toPersonS.f kj27 l0).bind fun t284 => ((impl_SplitTeams.f kj27 t284).bind fun bt287 => ((laws_eqIntSS.f kj27 bt287.1 t263).bind fun t291 => (if t291 = true then (laws_FnExactSplitTeams.j2 kj27 t900 t282 (bt287.2 != t264)) else (laws_FnExactSplitTeams.j2 kj27 t900 t282 true))))) else (none))) = some r := H
         have A42 := Aside0.mk A420; clear A420
         by_cases c43 : t283 < 0
         ·rw [if_pos c43] at H
          exact absurd H (by simp)
         ·rw [if_neg c43] at H
          have c43b0 : decide (t283 < 0) = false := decide_eq_false c43
          clear c43
          by_cases c44 : t283 = t282
          ·rw [if_pos c44] at H
           have c44b0 : (t283 == t282) = true := beq_iff_eq.mpr c44
           have c44b1 : (t283 != t282) = false := bne_eq_false_iff_eq.mpr c44
           clear c44; replace H := Option.bind_eq_some_iff.mp H; obtain ⟨t284, A450, H⟩ := H
           replace H : ((impl_SplitTeams.f kj27 t284).bind fun bt287 => ((laws_eqIntSS.f kj27 bt287.1 t263).bind fun t291 => (if t291 = true then (laws_FnExactSplitTeams.j2 kj27 t900 t282 (bt287.2 != t264)) else (laws_FnExactSplitTeams.j2 kj27 t900 t282 true)))) = some r := H
           have A45 := Aside0.mk A450; clear A450; replace H := Option.bind_eq_some_iff.mp H; obtain ⟨⟨t287, t290⟩, A460, H⟩ := H
           replace H : ((laws_eqIntSS.f kj27 t287 t263).bind fun t291 => (if t291 = true then (laws_FnExactSplitTeams.j2 kj27 t900 t282 (t290 != t264)) else (laws_FnExactSplitTeams.j2 kj27 t900 t282 true))) = some r := H
           have A46 := Aside0.mk A460; clear A460; have HC47 := Aside0.mk H; clear H
           obtain ⟨Ao48, co48, eo48⟩ := Kd.S_slice HO_7.out
           subst eo48
           go_upto_region 25 with (first | ((with_reducible refine gate_callee (f := 40) rfl ?_); refine goesL_ (some 64) rfl rfl Tryd.func40 (by kernel_rfl) rfl #[.slice Ao48 t270.length co48, .int .i64 1] rfl gl_ ?_; (refine (laws_markIntSS.calls kj27 (fun k_ => N16 ≤ k_) (.slice Ao48 t270.length co48) t270 1 t282 t900 w _ ?side1 ?side2 A41.out).mono ?_); (case side1 => exact bx_); (case side2 => exact (by (with_reducible repeat (first | apply Kd.S_alloc | apply Kd.S_drewN | apply Kd.S_drew)); exact HO_7.out)); rintro e w49 ⟨rfl, hs, hb, hkp, hln⟩; refine ⟨_, rfl, ?_⟩; have n0_ := Aside0.mk (Kd.S_kept (by (with_reducible repeat (first | apply Kd.S_alloc | apply Kd.S_drewN | apply Kd.S_drew)); exact HO_4.out) hkp (fun k_ h1_ h2_ => Nat.lt_irrefl _ (Nat.lt_of_lt_of_le h1_ h2_))); have n1_ := Aside0.mk hs; have n2_ := Aside0.mk hb; clear HO_4; clear HO_7; clear HB; have HO_4 := n0_; have HO_7 := n1_; have HB := n2_; clear n0_ n1_ n2_; clear hb hkp hs; rw [hln] at HO_7 ⊢; clear hln) | ((with_reducible refine gate_callee (f := 41) rfl ?_); refine goesL_ (some 67) rfl rfl Tryd.func41 (by kernel_rfl) rfl #[.slice Ao48 t900.length co48, .int .i64 1] rfl gl_ ?_; (with_reducible refine (laws_heldIntSS.calls kj27 _ _ t900 1 t283 _ ?side1 ?side2 A42.out).mono ?_); (case side1 => repeat (first | exact (Kd.S_reads' HO_7.out).2.2 | (with_reducible refine Kd.C_alloc ?_ _) | (with_reducible refine Kd.C_drewN ?_ _) | (with_reducible refine Kd.C_drew ?_))); (case side2 => exact (Kd.S_reads' HO_7.out).2.1); rintro e w' ⟨rfl, ⟨nd, rfl⟩⟩; refine ⟨_, rfl, ?_⟩) | ((with_reducible refine gate_callee (f := 14) rfl ?_); refine goesL_ (some 75) rfl rfl Tryd.func14 (by kernel_rfl) rfl #[.slice A0 l0.length c0] rfl gl_ ?_; (with_reducible refine (laws_toPersonS.calls kj27 _ _ l0 t284 _ ?side1 ?side2 A45.out).mono ?_); (case side1 => repeat (first | exact (Kd.C_below HR0.out bx_) | (with_reducible refine Kd.C_alloc ?_ _) | (with_reducible refine Kd.C_drewN ?_ _) | (with_reducible refine Kd.C_drew ?_))); (case side2 => exact HC0.out); rintro e w50 ⟨v285, rfl, ho0, hb⟩; refine ⟨_, rfl, ?_⟩; have n0_ := Aside0.mk (Kd.S_below (by (with_reducible repeat (first | apply Kd.S_alloc | apply Kd.S_drewN | apply Kd.S_drew)); exact HO_4.out) hb); have n1_ := Aside0.mk (Kd.S_below (by (with_reducible repeat (first | apply Kd.S_alloc | apply Kd.S_drewN | apply Kd.S_drew)); exact HO_7.out) hb); have n2_ := Aside0.mk (Kd.R_lower ho0 (below_size bx_)); have n3_ := Aside0.mk (below_step bx_ hb); clear HO_4; clear HO_7; clear HB; have HO_4 := n0_; have HO_7 := n1_; have HO286 := n2_; have HB := n3_; clear n0_ n1_ n2_ n3_; (try clear hb); (try clear hk); (try clear ho0); obtain ⟨Ao51, co51, eo51⟩ := Kd.R_slice HO286.out; subst eo51) | ((with_reducible refine gate_callee (f := 38) rfl ?_); refine goesL_ (some 76) rfl rfl Tryd.func38 (by kernel_rfl) rfl #[.slice Ao51 t284.length co51] rfl gl_ ?_; (with_reducible refine (impl_SplitTeams.calls kj27 (fun k_ => some k_ = (.slice Ao51 t284.length co51 : Value).ownBlock) _ _ t284 t287 t290 _ ?side1 A46.out).mono ?_); (case side1 => exact Kd.R_V (Kd.R_tight rfl (Kd.R_apart' (Kd.R_apart' (HO286.out) (Kd.S_typed HO_4.out) (by decide)) (Kd.S_typed HO_7.out) (by decide)))); rintro e w52 ⟨v288, rfl, ho0, hb⟩; refine ⟨_, rfl, ?_⟩; have n0_ := Aside0.mk (Kd.S_elder' (by (with_reducible repeat (first | apply Kd.S_alloc | apply Kd.S_drewN | apply Kd.S_drew)); exact HO_4.out) (Kd.S_base ho0) hb); have n1_ := Aside0.mk (Kd.S_elder' (by (with_reducible repeat (first | apply Kd.S_alloc | apply Kd.S_drewN | apply Kd.S_drew)); exact HO_7.out) (Kd.S_base ho0) hb); have n2_ := Aside0.mk (Kd.R_below (kr_ HO286) hb); have n3_ := Aside0.mk (Kd.S_lower (Kd.S_new' (Kd.S_new' (Kd.S_mono (ok' := fun k_ => True) ho0 (fun _ hk_ => trivial)) (Kd.S_lt (by (with_reducible repeat (first | apply Kd.S_alloc | apply Kd.S_drewN | apply Kd.S_drew)); exact HO_4.out))) (Kd.S_lt (by (with_reducible repeat (first | apply Kd.S_alloc | apply Kd.S_drewN | apply Kd.S_drew)); exact HO_7.out))) (below_size bx_)); have n4_ := Aside0.mk (below_step bx_ hb); clear HO_4; clear HO_7; clear HO286; clear HB; have HO_4 := n0_; have HO_7 := n1_; have HO286 := n2_; have HO289 := n3_; have HB := n4_; clear n0_ n1_ n2_ n3_ n4_; (try clear hb); (try clear hk); (try clear ho0)))
           (try simp only [Act.put, List.setIfInBounds_toArray, List.set_cons_zero, List.set_cons_succ])
           go_cut [87] (fun v87 wc => ∃ (kq : Nat) (x87_46 : Bool), v87 = .bool x87_46 ∧ Aside0 (laws_FnExactSplitTeams.j2 kq t900 t282 x87_46 = some r) ∧ Aside0 (kq ≤ kj27) ∧ Aside0 (Kd.S (Kd.slice 3 (Kd.int .i64)) 29 wc w.heap.size (fun _ => True) (.slice Ao48 t900.length co48) t900) ∧ Aside0 (Below w.heap.size w wc))
           case first =>
            have H := HC47.out; clear HC47; replace H := Option.bind_eq_some_iff.mp H; obtain ⟨t291, A530, H⟩ := H
            replace H : (if t291 = true then (laws_FnExactSplitTeams.j2 kj27 t900 t282 (t290 != t264)) else (laws_FnExactSplitTeams.j2 kj27 t900 t282 true)) = some r := H
            have A53 := Aside0.mk A530; clear A530
            by_cases c54 : t291 = true
            ·subst c54
             have H1 : (laws_FnExactSplitTeams.j2 kj27 t900 t282 (t290 != t264)) = some r := by rw [if_pos rfl] at H; exact H
             clear H; have H := H1; clear H1
             have H' := Aside0.mk H
             clear H
             obtain ⟨Ao55, co55, eo55⟩ := Kd.S_slice HO289.out
             subst eo55
             obtain ⟨Ao56, co56, eo56⟩ := Kd.S_slice HO_4.out
             subst eo56
             go_wp2_with (first | ((with_reducible refine gate_callee (f := 39) rfl ?_); refine goesL_ (some 81) rfl rfl Tryd.func39 (by kernel_rfl) rfl #[.slice Ao55 t287.length co55, .slice Ao56 t263.length co56] rfl gl_ ?_; (with_reducible refine (laws_eqIntSS.calls kj27 _ _ t287 _ _ t263 true _ ?side1 ?side2 ?side3 ?side4 A53.out).mono ?_); (case side1 => repeat (first | exact (Kd.S_reads' HO289.out).2.2 | (with_reducible refine Kd.C_alloc ?_ _) | (with_reducible refine Kd.C_drewN ?_ _) | (with_reducible refine Kd.C_drew ?_))); (case side2 => exact (Kd.S_reads' HO289.out).2.1); (case side3 => repeat (first | exact (Kd.S_reads' HO_4.out).2.2 | (with_reducible refine Kd.C_alloc ?_ _) | (with_reducible refine Kd.C_drewN ?_ _) | (with_reducible refine Kd.C_drew ?_))); (case side4 => exact (Kd.S_reads' HO_4.out).2.1); rintro e w' ⟨rfl, ⟨nd, rfl⟩⟩; refine ⟨_, rfl, ?_⟩))
             go_meet
             case rel => exact ⟨_, ((t290 != t264)), (by first | rfl | (simp; done) | (simp [*]; done)), H', ⟨by have := HJ8.out; have := HJ27.out; first | omega | exact Nat.le_refl _⟩, ⟨by (with_reducible repeat (first | apply Kd.S_alloc | apply Kd.S_drewN | apply Kd.S_drew)); exact Kd.S_mono HO_7.out (fun _ hk => trivial)⟩, ⟨by repeat (first | (with_reducible first | exact HB.out | apply below_alloc | apply pw_below_drewN | apply below_drew1) | exact HB.out)⟩⟩
            ·replace c54 := Bool.eq_false_iff.mpr c54
             subst c54
             have H1 : (laws_FnExactSplitTeams.j2 kj27 t900 t282 true) = some r := by rw [if_neg (show ¬ (false = true) by decide)] at H; exact H
             clear H; have H := H1; clear H1
             have H' := Aside0.mk H
             clear H
             obtain ⟨Ao57, co57, eo57⟩ := Kd.S_slice HO289.out
             subst eo57
             obtain ⟨Ao58, co58, eo58⟩ := Kd.S_slice HO_4.out
             subst eo58
             go_wp2_with (first | ((with_reducible refine gate_callee (f := 39) rfl ?_); refine goesL_ (some 81) rfl rfl Tryd.func39 (by kernel_rfl) rfl #[.slice Ao57 t287.length co57, .slice Ao58 t263.length co58] rfl gl_ ?_; (with_reducible refine (laws_eqIntSS.calls kj27 _ _ t287 _ _ t263 false _ ?side1 ?side2 ?side3 ?side4 A53.out).mono ?_); (case side1 => repeat (first | exact (Kd.S_reads' HO289.out).2.2 | (with_reducible refine Kd.C_alloc ?_ _) | (with_reducible refine Kd.C_drewN ?_ _) | (with_reducible refine Kd.C_drew ?_))); (case side2 => exact (Kd.S_reads' HO289.out).2.1); (case side3 => repeat (first | exact (Kd.S_reads' HO_4.out).2.2 | (with_reducible refine Kd.C_alloc ?_ _) | (with_reducible refine Kd.C_drewN ?_ _) | (with_reducible refine Kd.C_drew ?_))); (case side4 => exact (Kd.S_reads' HO_4.out).2.1); rintro e w' ⟨rfl, ⟨nd, rfl⟩⟩; refine ⟨_, rfl, ?_⟩))
             go_meet
             case rel => exact ⟨_, (true), (by first | rfl | (simp; done) | (simp [*]; done)), H', ⟨by have := HJ8.out; have := HJ27.out; first | omega | exact Nat.le_refl _⟩, ⟨by (with_reducible repeat (first | apply Kd.S_alloc | apply Kd.S_drewN | apply Kd.S_drew)); exact Kd.S_mono HO_7.out (fun _ hk => trivial)⟩, ⟨by repeat (first | (with_reducible first | exact HB.out | apply below_alloc | apply pw_below_drewN | apply below_drew1) | exact HB.out)⟩⟩
           case rest =>
            clear HC47; (try clear c3); (try clear c3b0); (try clear c4); (try clear c5); (try clear c18); (try clear c23); (try clear c26); (try clear c33); (try clear c33b0); (try clear c35); (try clear c40); (try clear c43); (try clear c43b0); (try clear c44); (try clear c44b0); (try clear c44b1); (try clear c54); obtain ⟨kq, x87_46, rfl, HA, HJ46, HO_7, HB⟩ := hcut
            cases kq with
            | zero => exact absurd HA.out (by simp [laws_FnExactSplitTeams.j2])
            | succ kj46 =>
             have H := HA.out; clear HA
             simp only [laws_FnExactSplitTeams.j2] at H
             by_cases c59 : x87_46 = true
             ·subst c59
              have H1 : (none) = some r := by rw [if_pos rfl] at H; exact H
              clear H; have H := H1; clear H1
              exact absurd H (by simp)
             ·replace c59 := Bool.eq_false_iff.mpr c59
              subst c59
              have H1 : ((laws_heldIntSS.f kj46 t900 1).bind fun t292 => (if t292 < 0 then (none) else (if t292 = t282 then (some true) else (none)))) = some r := by rw [if_neg (show ¬ (false = true) by decide)] at H; exact H
              clear H; have H := H1; clear H1; replace H := Option.bind_eq_some_iff.mp H; obtain ⟨t292, A600, H⟩ := H
              replace H : (if t292 < 0 then (none) else (if t292 = t282 then (some true) else (none))) = some r := H
              have A60 := Aside0.mk A600; clear A600
              by_cases c61 : t292 < 0
              ·rw [if_pos c61] at H
               exact absurd H (by simp)
              ·rw [if_neg c61] at H
               have c61b0 : decide (t292 < 0) = false := decide_eq_false c61
               clear c61
               by_cases c62 : t292 = t282
               ·rw [if_pos c62] at H
                have c62b0 : (t292 == t282) = true := beq_iff_eq.mpr c62
                have c62b1 : (t292 != t282) = false := bne_eq_false_iff_eq.mpr c62
                clear c62
                obtain rfl := Option.some.inj H
                go_wp2_with (first | ((with_reducible refine gate_callee (f := 41) rfl ?_); refine goesL_ (some 90) rfl rfl Tryd.func41 (by kernel_rfl) rfl #[.slice Ao48 t900.length co48, .int .i64 1] rfl gl_ ?_; (with_reducible refine (laws_heldIntSS.calls kj46 _ _ t900 1 t292 _ ?side1 ?side2 A60.out).mono ?_); (case side1 => repeat (first | exact (Kd.S_reads' HO_7.out).2.2 | (with_reducible refine Kd.C_alloc ?_ _) | (with_reducible refine Kd.C_drewN ?_ _) | (with_reducible refine Kd.C_drew ?_))); (case side2 => exact (Kd.S_reads' HO_7.out).2.1); rintro e w' ⟨rfl, ⟨nd, rfl⟩⟩; refine ⟨_, rfl, ?_⟩))
                go_ret
                exact ⟨by first | rfl | (simp [errW_none, errW_some] <;> rfl) | (simp [*, errW_none, errW_some] <;> rfl), by repeat (first | (with_reducible first | exact HB.out | apply below_alloc | apply pw_below_drewN | apply below_drew1) | exact HB.out)⟩
               ·rw [if_neg c62] at H
                exact absurd H (by simp)
          ·rw [if_neg c44] at H
           exact absurd H (by simp)
     ·replace c26 := Bool.eq_false_iff.mpr c26
      subst c26
      have H1 : (none) = some r := by rw [if_neg (show ¬ (false = true) by decide)] at H; exact H
      clear H; have H := H1; clear H1
      exact absurd H (by simp)

end Go.Proofs.YtafdklajmklmkaaDoor.XFnExactSplitTeams
