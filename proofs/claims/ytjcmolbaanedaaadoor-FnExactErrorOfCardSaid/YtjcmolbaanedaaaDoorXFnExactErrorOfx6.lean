/- Contracts of the functions that the law FnExactErrorOf comes to: each is told as a plain function of its arguments, and the machine's call does what that function says; no condition. Written by programs (print.py, xprint.py); Lean checks it. -/
import Derived.Test.YtjcmolbaanedaaaDoorXFnExactErrorOfx0
namespace Go.Proofs.YtjcmolbaanedaaaDoor.XFnExactErrorOf
open Go.RowKit Go.Proofs.YtjcmolbaanedaaaDoorW.PrintWords Go.Proofs.YtjcmolbaanedaaaDoorW.PrintLast Go.Proofs.YtjcmolbaanedaaaDoorW.PrintMore
attribute [local go_sem] max2_int min2_int max_two min_two max_three min_three max_four min_four   -- for this text's walks alone
set_option linter.unusedVariables false
set_option linter.unusedSimpArgs false

/-! ### impl_rounded: function 77 -/
def impl_rounded.f : Nat → Int → Int → Option (Int)
  | 0, _, _ => none
  | k + 1, a0, a1 => if a0 < 0 then ((impl_rounded.f k (wrap64 (-a0)) a1).bind fun t263 => (some (wrap64 (-t263)))) else (if (wrap64 (2 * a1)) = 0 then (none) else (some (wrap64 (Int.tdiv (wrap64 ((wrap64 (2 * a0)) + a1)) (wrap64 (2 * a1))))))
theorem impl_rounded.mono_l : ∀ k, (∀ y0 y1, LeO (impl_rounded.f k y0 y1) (impl_rounded.f (k + 1) y0 y1))
  | 0 => fun _ _ r h => by simp [impl_rounded.f] at h
  | k + 1 => by
    have ih0 := impl_rounded.mono_l k
    · intro y0 y1
      unfold impl_rounded.f
      repeat' first
      | (with_reducible exact ih0 _ _)
      | (with_reducible exact LeO.refl _)
      | (with_reducible exact LeO.none _)
      | (with_reducible refine LeO.ite ?_ ?_)
      | (with_reducible refine LeO.bind ?_ (fun _ => ?_))
      | exact ih0 _ _
      | exact LeO.none _
      | refine LeO.ite ?_ ?_
      | refine LeO.bind ?_ (fun _ => ?_)
theorem impl_rounded.mono : ∀ a0 a1 k, LeO (impl_rounded.f k a0 a1) (impl_rounded.f (k + 1) a0 a1) := by
  intro a0 a1 k
  have ih0 := impl_rounded.mono_l k
  exact ih0 a0 a1
set_option maxHeartbeats 8000000 in
set_option maxRecDepth 100000 in
theorem impl_rounded.calls (k : Nat) : ∀ (a0 : Int) (a1 : Int) (r : Int) (w : World) (h : impl_rounded.f k a0 a1 = some r),
    Calls Tryd.prog 77 #[.int .i64 a0, .int .i64 a1] w fun e w' => e = .returned (.int .i64 r) ∧ Drawn0 w w' := by
  induction k using Nat.strongRecOn with
  | _ k ih =>
  intro a0 a1 r w h
  cases k with
  | zero => exact absurd h (by simp [impl_rounded.f])
  | succ k =>
  simp only [impl_rounded.f] at h
  have H : (if a0 < 0 then ((impl_rounded.f k (wrap64 (-a0)) a1).bind fun t263 => (some (wrap64 (-t263)))) else (if (wrap64 (2 * a1)) = 0 then (none) else (some (wrap64 (Int.tdiv (wrap64 ((wrap64 (2 * a0)) + a1)) (wrap64 (2 * a1))))))) = some r := h
  clear h
  by_cases c3 : a0 < 0
  · rw [if_pos c3] at H
    have c3b0 : decide (a0 < 0) = true := decide_eq_true c3
    clear c3
    replace H := Option.bind_eq_some_iff.mp H
    obtain ⟨t263, A40, H⟩ := H
    replace H : (some (wrap64 (-t263))) = some r := H
    have A4 := Aside0.mk A40
    clear A40
    obtain rfl := Option.some.inj H
    go_enter Tryd.func77, Tryd.ntmps77
    go_wp2_with (first | ((with_reducible refine gate_callee (f := 77) rfl ?_); refine goesL_ (some 10) rfl rfl Tryd.func77 (by kernel_rfl) rfl #[.int .i64 (wrap64 (-a0)), .int .i64 a1] rfl (by (try simp only [List.map_toArray, List.map_cons, List.map_nil]); first | done | rfl | (simp only [List.length_drop, List.length_take]; rfl)) ?_; (with_reducible refine (ih k (by omega) (wrap64 (-a0)) a1 t263 _ A4.out).mono ?_); rintro e w' ⟨rfl, ⟨nd, rfl⟩⟩; refine ⟨_, rfl, ?_⟩))
    go_ret
    exact ⟨by first | rfl | (simp; done) | (simp [*]; done), by repeat (first | exact Drawn0.refl _ | apply Drawn0.step)⟩
  · rw [if_neg c3] at H
    have c3b0 : decide (a0 < 0) = false := decide_eq_false c3
    clear c3
    by_cases c5 : (wrap64 (2 * a1)) = 0
    · rw [if_pos c5] at H
      exact absurd H (by simp)
    · rw [if_neg c5] at H
      have c5b0 : ((wrap64 (2 * a1)) == 0) = false := beq_eq_false_iff_ne.mpr c5
      have c5b1 : ((wrap64 (2 * a1)) != 0) = true := bne_iff_ne.mpr c5
      obtain rfl := Option.some.inj H
      go_enter Tryd.func77, Tryd.ntmps77
      go_wp2
      go_ret
      exact ⟨by first | rfl | (simp; done) | (simp [*]; done), by repeat (first | exact Drawn0.refl _ | apply Drawn0.step)⟩

/-! ### impl_modulo: function 80 -/
def impl_modulo.f (a0 : Int) (a1 : Int) : Option (Int) := if a1 = 0 then (none) else (some (Int.tmod (wrap64 ((Int.tmod a0 a1) + a1)) a1))
set_option maxHeartbeats 8000000 in
set_option maxRecDepth 100000 in
theorem impl_modulo.calls (a0 : Int) (a1 : Int) (r : Int) (w : World) (h : impl_modulo.f a0 a1 = some r) :
    Calls Tryd.prog 80 #[.int .i64 a0, .int .i64 a1] w fun e w' => e = .returned (.int .i64 r) ∧ Drawn0 w w' := by
  have H : (if a1 = 0 then (none) else (some (Int.tmod (wrap64 ((Int.tmod a0 a1) + a1)) a1))) = some r := h
  clear h
  by_cases c3 : a1 = 0
  · rw [if_pos c3] at H
    exact absurd H (by simp)
  · rw [if_neg c3] at H
    have c3b0 : (a1 == 0) = false := beq_eq_false_iff_ne.mpr c3
    have c3b1 : (a1 != 0) = true := bne_iff_ne.mpr c3
    obtain rfl := Option.some.inj H
    go_enter Tryd.func80, Tryd.ntmps80
    go_wp2
    go_ret
    exact ⟨by first | rfl | (simp; done) | (simp [*]; done), by repeat (first | exact Drawn0.refl _ | apply Drawn0.step)⟩

/-! ### The table of sines, and impl_sine: function 79 (by hand) -/
/-- The table's numbers. -/
def sineTab : List Int := [0, 17, 35, 52, 70, 87, 105, 122, 139, 156, 174, 191, 208, 225, 242, 259, 276, 292, 309, 326, 342, 358, 375, 391, 407, 423, 438, 454, 469, 485, 500, 515, 530, 545, 559, 574, 588, 602, 616, 629, 643, 656, 669, 682, 695, 707, 719, 731, 743, 755, 766, 777, 788, 799, 809, 819, 829, 839, 848, 857, 866, 875, 883, 891, 899, 906, 914, 921, 927, 934, 940, 946, 951, 956, 961, 966, 970, 974, 978, 982, 985, 988, 990, 993, 995, 996, 998, 999, 999, 1000, 1000]
/-- The variable 'sines' holds its table. -/
structure Tab (w : World) : Prop where mk :: (cell : ∀ i : Nat, i < 91 → w.cell? ⟨0, i, none⟩ = some (.int .i64 (sineTab.getD i 0)))
theorem Tab.drewN {w : World} (h : Tab w) (n : Nat) : Tab (w.drewN n) := ⟨fun i hi => h.cell i hi⟩
theorem Tab.drawn {w w' : World} (h : Tab w) (hd : Drawn0 w w') : Tab w' := by
  obtain ⟨n, rfl⟩ := hd.out
  exact h.drewN n
theorem Tab.lt {w : World} (h : Tab w) : 0 < w.heap.size := World.block_lt_of_cell? w _ (h.cell 0 (by omega))
theorem Tab.below {w w' : World} (h : Tab w) (hb : Below w.heap.size w w') : Tab w' := ⟨fun i hi => pw_cell_below hb (h.cell i hi)⟩
/-- The sine of 0 to 180 degrees. -/
def sineLow (d : Int) : Int := if d ≤ 90 then sineTab.getD d.toNat 0 else sineTab.getD (180 - d).toNat 0
def impl_sine.f (a0 : Int) : Option (Int) := (impl_modulo.f a0 360).bind fun d => if 0 ≤ d ∧ d < 360 then (if d ≤ 180 then some (sineLow d) else some (wrap64 (-(sineLow (d - 180))))) else none
set_option maxHeartbeats 800000 in
set_option maxRecDepth 100000 in
theorem impl_sine.low (a0 d : Int) (w : World) (hT : Tab w) (h : impl_modulo.f a0 360 = some d) (h0 : 0 ≤ d) (h1 : d ≤ 180) :
    Calls Tryd.prog 79 #[.int .i64 a0] w fun e w' => e = .returned (.int .i64 (sineLow d)) ∧ Drawn0 w w' := by
  have A2 := Aside0.mk h
  clear h
  by_cases c : d ≤ 90
  · have hc := hT.cell d.toNat (by omega)
    have e : sineLow d = sineTab.getD d.toNat 0 := if_pos c
    rw [e]
    generalize sineTab.getD d.toNat 0 = v at *
    clear e
    go_enter Tryd.func79, Tryd.ntmps79
    go_wp2_with (first | ((with_reducible refine gate_callee (f := 80) rfl ?_); refine goesL_ (some 5) rfl rfl Tryd.func80 (by kernel_rfl) rfl #[.int .i64 a0, .int .i64 360] rfl (by (try simp only [List.map_toArray, List.map_cons, List.map_nil]); first | done | rfl) ?_; (with_reducible refine (impl_modulo.calls a0 360 d _ A2.out).mono ?_); rintro e w' ⟨rfl, ⟨nd, rfl⟩⟩; refine ⟨_, rfl, ?_⟩))
    go_ret
    exact ⟨by first | rfl | (simp; done) | (simp [*]; done), by repeat (first | exact Drawn0.refl _ | apply Drawn0.step)⟩
  · have hc := hT.cell (180 - d).toNat (by omega)
    have e : sineLow d = sineTab.getD (180 - d).toNat 0 := if_neg c
    rw [e]
    generalize sineTab.getD (180 - d).toNat 0 = v at *
    clear e
    go_enter Tryd.func79, Tryd.ntmps79
    go_wp2_with (first | ((with_reducible refine gate_callee (f := 80) rfl ?_); refine goesL_ (some 5) rfl rfl Tryd.func80 (by kernel_rfl) rfl #[.int .i64 a0, .int .i64 360] rfl (by (try simp only [List.map_toArray, List.map_cons, List.map_nil]); first | done | rfl) ?_; (with_reducible refine (impl_modulo.calls a0 360 d _ A2.out).mono ?_); rintro e w' ⟨rfl, ⟨nd, rfl⟩⟩; refine ⟨_, rfl, ?_⟩))
    go_ret
    exact ⟨by first | rfl | (simp; done) | (simp [*]; done), by repeat (first | exact Drawn0.refl _ | apply Drawn0.step)⟩
set_option maxHeartbeats 800000 in
set_option maxRecDepth 100000 in
theorem impl_sine.calls (a0 : Int) (r : Int) (w : World) (hT : Tab w) (h : impl_sine.f a0 = some r) :
    Calls Tryd.prog 79 #[.int .i64 a0] w fun e w' => e = .returned (.int .i64 r) ∧ Drawn0 w w' := by
  unfold impl_sine.f at h
  replace h := Option.bind_eq_some_iff.mp h
  obtain ⟨d, hm, h⟩ := h
  by_cases hr : 0 ≤ d ∧ d < 360
  · rw [if_pos hr] at h
    by_cases c : d ≤ 180
    · rw [if_pos c] at h
      obtain rfl := Option.some.inj h
      exact impl_sine.low a0 d w hT hm hr.1 c
    · rw [if_neg c] at h
      obtain rfl := Option.some.inj h
      have hm2 : impl_modulo.f (d - 180) 360 = some (d - 180) := by
        unfold impl_modulo.f
        have e0 : Int.tmod (d - 180) 360 = d - 180 := Int.tmod_eq_of_lt (by omega) (by omega)
        have e1 : wrap64 (d - 180 + 360) = d - 180 + 360 := by unfold wrap64; omega
        have e2 : Int.tmod (d - 180 + 360) 360 = (d - 180 + 360) % 360 := Int.tmod_eq_emod_of_nonneg (by omega)
        rw [if_neg (by omega), e0, e1, e2]
        exact congrArg some (by omega)
      have A2 := Aside0.mk hm
      have A3 := Aside0.mk hm2
      have HT := Aside0.mk hT
      have h0 := hr.1
      have h1 := hr.2
      clear hm hm2 hT h hr
      have hv := Aside0.mk (rfl : sineLow (d - 180) = sineLow (d - 180))
      generalize hg : sineLow (d - 180) = v at *
      have HG := Aside0.mk hg
      clear hg hv
      go_enter Tryd.func79, Tryd.ntmps79
      go_wp2_with (first | ((with_reducible refine gate_callee (f := 80) rfl ?_); refine goesL_ (some 5) rfl rfl Tryd.func80 (by kernel_rfl) rfl #[.int .i64 a0, .int .i64 360] rfl (by (try simp only [List.map_toArray, List.map_cons, List.map_nil]); first | done | rfl) ?_; (with_reducible refine (impl_modulo.calls a0 360 d _ A2.out).mono ?_); rintro e w' ⟨rfl, ⟨nd, rfl⟩⟩; refine ⟨_, rfl, ?_⟩) | ((with_reducible refine gate_callee (f := 79) rfl ?_); refine goesL_ (some 21) rfl rfl Tryd.func79 (by kernel_rfl) rfl #[.int .i64 (d - 180)] rfl (by (try simp only [List.map_toArray, List.map_cons, List.map_nil]); first | done | rfl) ?_; (with_reducible refine (impl_sine.low (d - 180) (d - 180) _ ?side1 A3.out (by omega) (by omega)).mono ?_); (case side1 => exact HT.out.drewN _); rintro e w' ⟨rfl, ⟨nd, rfl⟩⟩; refine ⟨_, rfl, ?_⟩))
      go_ret
      exact ⟨by first | rfl | (simp [HG.out]; done), by repeat (first | exact Drawn0.refl _ | apply Drawn0.step)⟩
  · rw [if_neg hr] at h
    cases h


/-! ### impl_cosine: function 78 -/
def impl_cosine.f (a0 : Int) : Option (Int) := (impl_sine.f (wrap64 (a0 + 90))).bind fun t264 => (some t264)
set_option maxHeartbeats 8000000 in
set_option maxRecDepth 100000 in
theorem impl_cosine.calls (a0 : Int) (r : Int) (w : World) (hT : Tab w) (h : impl_cosine.f a0 = some r) :
    Calls Tryd.prog 78 #[.int .i64 a0] w fun e w' => e = .returned (.int .i64 r) ∧ Drawn0 w w' := by
  have HT := Aside0.mk hT
  clear hT
  have H : ((impl_sine.f (wrap64 (a0 + 90))).bind fun t264 => (some t264)) = some r := h
  clear h
  replace H := Option.bind_eq_some_iff.mp H
  obtain ⟨t264, A20, H⟩ := H
  replace H : (some t264) = some r := H
  have A2 := Aside0.mk A20
  clear A20
  obtain rfl := Option.some.inj H
  go_enter Tryd.func78, Tryd.ntmps78
  go_wp2_with (first | ((with_reducible refine gate_callee (f := 79) rfl ?_); refine goesL_ (some 5) rfl rfl Tryd.func79 (by kernel_rfl) rfl #[.int .i64 (wrap64 (a0 + 90))] rfl (by (try simp only [List.map_toArray, List.map_cons, List.map_nil]); first | done | rfl | (simp only [List.length_drop, List.length_take]; rfl)) ?_; (with_reducible refine (impl_sine.calls (wrap64 (a0 + 90)) t264 _ ?sideT A2.out).mono ?_); (case sideT => first | exact HT.out | (refine Tab.drawn HT.out ?_; (repeat (first | exact Drawn0.refl _ | apply Drawn0.step)); done) | (refine Tab.below HT.out ?_; repeat (first | (with_reducible first | exact HB.out | apply below_alloc | apply pw_below_drewN | apply below_drew1) | exact HB.out))); rintro e w' ⟨rfl, ⟨nd, rfl⟩⟩; refine ⟨_, rfl, ?_⟩))
  go_ret
  exact ⟨by first | rfl | (simp; done) | (simp [*]; done), by repeat (first | exact Drawn0.refl _ | apply Drawn0.step)⟩

/-! ### impl_partOf: function 71 -/
def impl_partOf.f (k : Nat) (a0 : Int) (a1 : Int) : Option (Int × Int) := (impl_cosine.f a1).bind fun t265 => ((impl_rounded.f k (wrap64 (a0 * t265)) 1000).bind fun t266 => ((impl_sine.f a1).bind fun t267 => ((impl_rounded.f k (wrap64 (a0 * t267)) 1000).bind fun t268 => (some (t266, t268)))))
theorem impl_partOf.mono : ∀ a0 a1 k, LeO (impl_partOf.f k a0 a1) (impl_partOf.f (k + 1) a0 a1) := by
  intro a0 a1 k
  unfold impl_partOf.f
  repeat' first
      | (with_reducible exact impl_rounded.mono _ _ _)
      | (with_reducible exact LeO.refl _)
      | (with_reducible exact LeO.none _)
      | (with_reducible refine LeO.ite ?_ ?_)
      | (with_reducible refine LeO.bind ?_ (fun _ => ?_))
      | exact impl_rounded.mono _ _ _
      | exact LeO.none _
      | refine LeO.ite ?_ ?_
      | refine LeO.bind ?_ (fun _ => ?_)
set_option maxHeartbeats 8000000 in
set_option maxRecDepth 100000 in
theorem impl_partOf.calls (k : Nat) (a0 : Int) (a1 : Int) (r1 : Int) (r2 : Int) (w : World) (hT : Tab w) (h : impl_partOf.f k a0 a1 = some (r1, r2)) :
    Calls Tryd.prog 71 #[.int .i64 a0, .int .i64 a1] w fun e w' => e = .returned (.tuple #[.int .i64 r1, .int .i64 r2]) ∧ Drawn0 w w' := by
  have HT := Aside0.mk hT
  clear hT
  have H : ((impl_cosine.f a1).bind fun t265 => ((impl_rounded.f k (wrap64 (a0 * t265)) 1000).bind fun t266 => ((impl_sine.f a1).bind fun t267 => ((impl_rounded.f k (wrap64 (a0 * t267)) 1000).bind fun t268 => (some (t266, t268)))))) = some (r1, r2) := h
  clear h
  replace H := Option.bind_eq_some_iff.mp H
  obtain ⟨t265, A30, H⟩ := H
  replace H : ((impl_rounded.f k (wrap64 (a0 * t265)) 1000).bind fun t266 => ((impl_sine.f a1).bind fun t267 => ((impl_rounded.f k (wrap64 (a0 * t267)) 1000).bind fun t268 => (some (t266, t268))))) = some (r1, r2) := H
  have A3 := Aside0.mk A30
  clear A30
  replace H := Option.bind_eq_some_iff.mp H
  obtain ⟨t266, A40, H⟩ := H
  replace H : ((impl_sine.f a1).bind fun t267 => ((impl_rounded.f k (wrap64 (a0 * t267)) 1000).bind fun t268 => (some (t266, t268)))) = some (r1, r2) := H
  have A4 := Aside0.mk A40
  clear A40
  replace H := Option.bind_eq_some_iff.mp H
  obtain ⟨t267, A50, H⟩ := H
  replace H : ((impl_rounded.f k (wrap64 (a0 * t267)) 1000).bind fun t268 => (some (t266, t268))) = some (r1, r2) := H
  have A5 := Aside0.mk A50
  clear A50
  replace H := Option.bind_eq_some_iff.mp H
  obtain ⟨t268, A60, H⟩ := H
  replace H : (some (t266, t268)) = some (r1, r2) := H
  have A6 := Aside0.mk A60
  clear A60
  simp only [Option.some.injEq, Prod.mk.injEq] at H
  obtain ⟨rfl, rfl⟩ := H
  go_enter Tryd.func71, Tryd.ntmps71
  go_wp2_with (first | ((with_reducible refine gate_callee (f := 78) rfl ?_); refine goesL_ (some 8) rfl rfl Tryd.func78 (by kernel_rfl) rfl #[.int .i64 a1] rfl (by (try simp only [List.map_toArray, List.map_cons, List.map_nil]); first | done | rfl | (simp only [List.length_drop, List.length_take]; rfl)) ?_; (with_reducible refine (impl_cosine.calls a1 t265 _ ?sideT A3.out).mono ?_); (case sideT => first | exact HT.out | (refine Tab.drawn HT.out ?_; (repeat (first | exact Drawn0.refl _ | apply Drawn0.step)); done) | (refine Tab.below HT.out ?_; repeat (first | (with_reducible first | exact HB.out | apply below_alloc | apply pw_below_drewN | apply below_drew1) | exact HB.out))); rintro e w' ⟨rfl, ⟨nd, rfl⟩⟩; refine ⟨_, rfl, ?_⟩) | ((with_reducible refine gate_callee (f := 77) rfl ?_); refine goesL_ (some 10) rfl rfl Tryd.func77 (by kernel_rfl) rfl #[.int .i64 (wrap64 (a0 * t265)), .int .i64 1000] rfl (by (try simp only [List.map_toArray, List.map_cons, List.map_nil]); first | done | rfl | (simp only [List.length_drop, List.length_take]; rfl)) ?_; (with_reducible refine (impl_rounded.calls k (wrap64 (a0 * t265)) 1000 t266 _ A4.out).mono ?_); rintro e w' ⟨rfl, ⟨nd, rfl⟩⟩; refine ⟨_, rfl, ?_⟩) | ((with_reducible refine gate_callee (f := 79) rfl ?_); refine goesL_ (some 13) rfl rfl Tryd.func79 (by kernel_rfl) rfl #[.int .i64 a1] rfl (by (try simp only [List.map_toArray, List.map_cons, List.map_nil]); first | done | rfl | (simp only [List.length_drop, List.length_take]; rfl)) ?_; (with_reducible refine (impl_sine.calls a1 t267 _ ?sideT A5.out).mono ?_); (case sideT => first | exact HT.out | (refine Tab.drawn HT.out ?_; (repeat (first | exact Drawn0.refl _ | apply Drawn0.step)); done) | (refine Tab.below HT.out ?_; repeat (first | (with_reducible first | exact HB.out | apply below_alloc | apply pw_below_drewN | apply below_drew1) | exact HB.out))); rintro e w' ⟨rfl, ⟨nd, rfl⟩⟩; refine ⟨_, rfl, ?_⟩) | ((with_reducible refine gate_callee (f := 77) rfl ?_); refine goesL_ (some 15) rfl rfl Tryd.func77 (by kernel_rfl) rfl #[.int .i64 (wrap64 (a0 * t267)), .int .i64 1000] rfl (by (try simp only [List.map_toArray, List.map_cons, List.map_nil]); first | done | rfl | (simp only [List.length_drop, List.length_take]; rfl)) ?_; (with_reducible refine (impl_rounded.calls k (wrap64 (a0 * t267)) 1000 t268 _ A6.out).mono ?_); rintro e w' ⟨rfl, ⟨nd, rfl⟩⟩; refine ⟨_, rfl, ?_⟩))
  go_ret2
  exact ⟨by first | rfl | (simp; done) | (simp [*]; done), by repeat (first | exact Drawn0.refl _ | apply Drawn0.step)⟩

/-! ### impl_Leg_shift: function 45 -/
def impl_Leg_shift.f (k : Nat) (a0_0 : Int) (a0_1 : Int) (a0_2 : Int) (a0_3 : Int) (a0_4 : Int) : Option (Int × Int × Int) := (impl_partOf.f k a0_2 a0_4).bind fun bt271 => ((impl_partOf.f k bt271.1 a0_3).bind fun bt273 => (some (bt273.2, bt273.1, bt271.2)))
theorem impl_Leg_shift.mono : ∀ a0 a1 a2 a3 a4 k, LeO (impl_Leg_shift.f k a0 a1 a2 a3 a4) (impl_Leg_shift.f (k + 1) a0 a1 a2 a3 a4) := by
  intro a0 a1 a2 a3 a4 k
  unfold impl_Leg_shift.f
  repeat' first
      | (with_reducible exact impl_partOf.mono _ _ _)
      | (with_reducible exact LeO.refl _)
      | (with_reducible exact LeO.none _)
      | (with_reducible refine LeO.ite ?_ ?_)
      | (with_reducible refine LeO.bind ?_ (fun _ => ?_))
      | exact impl_partOf.mono _ _ _
      | exact LeO.none _
      | refine LeO.ite ?_ ?_
      | refine LeO.bind ?_ (fun _ => ?_)
set_option maxHeartbeats 8000000 in
set_option maxRecDepth 100000 in
theorem impl_Leg_shift.calls (k : Nat) (a0_0 : Int) (a0_1 : Int) (a0_2 : Int) (a0_3 : Int) (a0_4 : Int) (r1 : Int) (r2 : Int) (r3 : Int) (w : World) (hT : Tab w) (h : impl_Leg_shift.f k a0_0 a0_1 a0_2 a0_3 a0_4 = some (r1, r2, r3)) :
    Calls Tryd.prog 45 #[.agg #[.int .i64 a0_0, .int .i64 a0_1, .int .i64 a0_2, .int .i64 a0_3, .int .i64 a0_4]] w fun e w' => e = .returned (.agg #[.int .i64 r1, .int .i64 r2, .int .i64 r3]) ∧ Below w.heap.size w w' := by
  have HT := Aside0.mk hT
  clear hT
  have hu28 := Tryd.underlying28
  have hu25 := Tryd.underlying25
  have HB := Aside0.mk (Below.refl w.heap.size w)
  have H : ((impl_partOf.f k a0_2 a0_4).bind fun bt271 => ((impl_partOf.f k bt271.1 a0_3).bind fun bt273 => (some (bt273.2, bt273.1, bt271.2)))) = some (r1, r2, r3) := h
  clear h
  replace H := Option.bind_eq_some_iff.mp H
  obtain ⟨⟨t271, t272⟩, A20, H⟩ := H
  replace H : ((impl_partOf.f k t271 a0_3).bind fun bt273 => (some (bt273.2, bt273.1, t272))) = some (r1, r2, r3) := H
  have A2 := Aside0.mk A20
  clear A20
  replace H := Option.bind_eq_some_iff.mp H
  obtain ⟨⟨t273, t274⟩, A30, H⟩ := H
  replace H : (some (t274, t273, t272)) = some (r1, r2, r3) := H
  have A3 := Aside0.mk A30
  clear A30
  simp only [Option.some.injEq, Prod.mk.injEq] at H
  obtain ⟨rfl, rfl, rfl⟩ := H
  go_enter Tryd.func45, Tryd.ntmps45
  go_wp2_with (first | ((with_reducible refine gate_dst (N := 1) rfl ?_); refine box_event ?hg (N := 1) ?hd (cs := #[.int .i64 a0_0, .int .i64 a0_1, .int .i64 a0_2, .int .i64 a0_3, .int .i64 a0_4]) (t := 28) ?hr ?_; (case hd => rfl); (case hg => rfl); (case hr => first | (go_simp; done) | (go_simp; rfl)); intro gb269 hg w4 hbox hb; have n0_ := Aside0.mk (below_step (by repeat (first | (with_reducible first | exact HB.out | apply below_alloc | apply pw_below_drewN | apply below_drew1) | exact HB.out)) hb); have n1_ := Aside0.mk (hbox); have n2_ := Aside0.mk ((by rw [hg]; exact (below_size (by repeat (first | (with_reducible first | exact HB.out | apply below_alloc | apply pw_below_drewN | apply below_drew1) | exact HB.out))) : w.heap.size ≤ gb269)); have n3_ := Aside0.mk ((by rw [hg]; exact (below_size (by repeat (first | (with_reducible first | exact HB.out | apply below_alloc | apply pw_below_drewN | apply below_drew1) | exact HB.out))) : w.heap.size ≤ gb269)); clear HB; have HB := n0_; have BK269 := n1_; have GW269 := n2_; have GE269 := n3_; clear n0_ n1_ n2_ n3_; clear hb hbox hg) | ((with_reducible refine gate_dst (N := 2) rfl ?_); refine box_event ?hg (N := 2) ?hd (cs := #[.int .i64 0, .int .i64 0, .int .i64 0]) (t := 25) ?hr ?_; (case hd => rfl); (case hg => rfl); (case hr => first | (go_simp; done) | (go_simp; rfl)); intro gb270 hg w5 hbox hb; have n0_ := Aside0.mk (blk_below (g := gb269) (o := .cells #[.int .i64 a0_0, .int .i64 a0_1, .int .i64 a0_2, .int .i64 a0_3, .int .i64 a0_4] 28 (0, 0)) (by (with_reducible repeat (first | refine blk_drewN ?_ _ | refine blk_drew ?_ | refine blk_alloc ?_ _)); exact BK269.out) hb); have n1_ := Aside0.mk (below_step (by repeat (first | (with_reducible first | exact HB.out | apply below_alloc | apply pw_below_drewN | apply below_drew1 | refine below_set ?_ GE269.out) | exact HB.out)) hb); have n2_ := Aside0.mk (hbox); have n3_ := Aside0.mk ((by rw [hg]; exact (below_size (by repeat (first | (with_reducible first | exact HB.out | apply below_alloc | apply pw_below_drewN | apply below_drew1 | refine below_set ?_ GE269.out) | exact HB.out))) : w.heap.size ≤ gb270)); have n4_ := Aside0.mk ((by rw [hg]; exact (below_size (by repeat (first | (with_reducible first | exact HB.out | apply below_alloc | apply pw_below_drewN | apply below_drew1 | refine below_set ?_ GE269.out) | exact HB.out))) : w.heap.size ≤ gb270)); have n5_ := Aside0.mk ((by rw [hg]; exact Nat.ne_of_lt (blk_lt (g := gb269) (o := .cells #[.int .i64 a0_0, .int .i64 a0_1, .int .i64 a0_2, .int .i64 a0_3, .int .i64 a0_4] 28 (0, 0)) (by (with_reducible repeat (first | refine blk_drewN ?_ _ | refine blk_drew ?_ | refine blk_alloc ?_ _)); exact BK269.out)) : gb269 ≠ gb270)); have n6_ := Aside0.mk ((by rw [hg]; exact Nat.ne_of_gt (blk_lt (g := gb269) (o := .cells #[.int .i64 a0_0, .int .i64 a0_1, .int .i64 a0_2, .int .i64 a0_3, .int .i64 a0_4] 28 (0, 0)) (by (with_reducible repeat (first | refine blk_drewN ?_ _ | refine blk_drew ?_ | refine blk_alloc ?_ _)); exact BK269.out)) : gb270 ≠ gb269)); clear BK269; clear HB; have BK269 := n0_; have HB := n1_; have BK270 := n2_; have GW270 := n3_; have GE270 := n4_; have NB269_270 := n5_; have NB270_269 := n6_; clear n0_ n1_ n2_ n3_ n4_ n5_ n6_; clear hb hbox hg; have hnb6 := NB269_270.out; have hnc6 := NB270_269.out; have hcz7_0 : w5.cell? ⟨gb269, 0, none⟩ = some (.int .i64 a0_0) := (blk_cell BK269.out 0).trans rfl; have hcz7_1 : w5.cell? ⟨gb269, 1, none⟩ = some (.int .i64 a0_1) := (blk_cell BK269.out 1).trans rfl; have hcz7_2 : w5.cell? ⟨gb269, 2, none⟩ = some (.int .i64 a0_2) := (blk_cell BK269.out 2).trans rfl; have hcz7_3 : w5.cell? ⟨gb269, 3, none⟩ = some (.int .i64 a0_3) := (blk_cell BK269.out 3).trans rfl; have hcz7_4 : w5.cell? ⟨gb269, 4, none⟩ = some (.int .i64 a0_4) := (blk_cell BK269.out 4).trans rfl; have hfz7_0 := blk_frozen BK269.out 0; have hfz7_1 := blk_frozen BK269.out 1; have hfz7_2 := blk_frozen BK269.out 2; have hfz7_3 := blk_frozen BK269.out 3; have hfz7_4 := blk_frozen BK269.out 4) | ((with_reducible refine gate_callee (f := 71) rfl ?_); refine goesL_ (some 12) rfl rfl Tryd.func71 (by kernel_rfl) rfl #[.int .i64 a0_2, .int .i64 a0_4] rfl (by (try simp only [List.map_toArray, List.map_cons, List.map_nil]); first | done | rfl | (simp only [List.length_drop, List.length_take]; rfl)) ?_; (with_reducible refine (impl_partOf.calls k a0_2 a0_4 t271 t272 _ ?sideT A2.out).mono ?_); (case sideT => first | exact HT.out | (refine Tab.drawn HT.out ?_; (repeat (first | exact Drawn0.refl _ | apply Drawn0.step)); done) | (refine Tab.below HT.out ?_; repeat (first | (with_reducible first | exact HB.out | apply below_alloc | apply pw_below_drewN | apply below_drew1 | refine below_set ?_ GE269.out | refine below_set ?_ GE270.out) | exact HB.out))); rintro e w' ⟨rfl, ⟨nd, rfl⟩⟩; refine ⟨_, rfl, ?_⟩; (try (rw [drewN_self w5]; generalize hq_ : World.drewN w5 _ = w5; have n0_ : Aside0 (w5.heap[gb269]? = some (.cells #[.int .i64 a0_0, .int .i64 a0_1, .int .i64 a0_2, .int .i64 a0_3, .int .i64 a0_4] 28 (0, 0))) := ⟨by rw [← hq_]; exact (by (with_reducible repeat (first | refine blk_drewN ?_ _ | refine blk_drew ?_ | refine blk_alloc ?_ _)); exact BK269.out)⟩; have n1_ : Aside0 (w5.heap[gb270]? = some (.cells #[.int .i64 0, .int .i64 0, .int .i64 0] 25 (0, 0))) := ⟨by rw [← hq_]; exact (by (with_reducible repeat (first | refine blk_drewN ?_ _ | refine blk_drew ?_ | refine blk_alloc ?_ _)); exact BK270.out)⟩; have n2_ : Aside0 (Below w.heap.size w w5) := ⟨by rw [← hq_]; exact (by repeat (first | (with_reducible first | exact HB.out | apply below_alloc | apply pw_below_drewN | apply below_drew1 | refine below_set ?_ GE269.out | refine below_set ?_ GE270.out) | exact HB.out))⟩; clear BK269 BK270 HB hq_; have BK269 := n0_; have BK270 := n1_; have HB := n2_; clear n0_ n1_ n2_)); have hcz8_0 : w5.cell? ⟨gb269, 0, none⟩ = some (.int .i64 a0_0) := (blk_cell BK269.out 0).trans rfl; have hcz8_1 : w5.cell? ⟨gb269, 1, none⟩ = some (.int .i64 a0_1) := (blk_cell BK269.out 1).trans rfl; have hcz8_2 : w5.cell? ⟨gb269, 2, none⟩ = some (.int .i64 a0_2) := (blk_cell BK269.out 2).trans rfl; have hcz8_3 : w5.cell? ⟨gb269, 3, none⟩ = some (.int .i64 a0_3) := (blk_cell BK269.out 3).trans rfl; have hcz8_4 : w5.cell? ⟨gb269, 4, none⟩ = some (.int .i64 a0_4) := (blk_cell BK269.out 4).trans rfl; have hfz8_0 := blk_frozen BK269.out 0; have hfz8_1 := blk_frozen BK269.out 1; have hfz8_2 := blk_frozen BK269.out 2; have hfz8_3 := blk_frozen BK269.out 3; have hfz8_4 := blk_frozen BK269.out 4) | ((with_reducible refine gate_callee (f := 71) rfl ?_); refine goesL_ (some 19) rfl rfl Tryd.func71 (by kernel_rfl) rfl #[.int .i64 t271, .int .i64 a0_3] rfl (by (try simp only [List.map_toArray, List.map_cons, List.map_nil]); first | done | rfl | (simp only [List.length_drop, List.length_take]; rfl)) ?_; (with_reducible refine (impl_partOf.calls k t271 a0_3 t273 t274 _ ?sideT A3.out).mono ?_); (case sideT => first | exact HT.out | (refine Tab.drawn HT.out ?_; (repeat (first | exact Drawn0.refl _ | apply Drawn0.step)); done) | (refine Tab.below HT.out ?_; repeat (first | (with_reducible first | exact HB.out | apply below_alloc | apply pw_below_drewN | apply below_drew1 | refine below_set ?_ GE269.out | refine below_set ?_ GE270.out) | exact HB.out))); rintro e w' ⟨rfl, ⟨nd, rfl⟩⟩; refine ⟨_, rfl, ?_⟩; (try (rw [drewN_self w5]; generalize hq_ : World.drewN w5 _ = w5; have n0_ : Aside0 (w5.heap[gb269]? = some (.cells #[.int .i64 a0_0, .int .i64 a0_1, .int .i64 a0_2, .int .i64 a0_3, .int .i64 a0_4] 28 (0, 0))) := ⟨by rw [← hq_]; exact (by (with_reducible repeat (first | refine blk_drewN ?_ _ | refine blk_drew ?_ | refine blk_alloc ?_ _)); exact BK269.out)⟩; have n1_ : Aside0 (w5.heap[gb270]? = some (.cells #[.int .i64 0, .int .i64 0, .int .i64 0] 25 (0, 0))) := ⟨by rw [← hq_]; exact (by (with_reducible repeat (first | refine blk_drewN ?_ _ | refine blk_drew ?_ | refine blk_alloc ?_ _)); exact BK270.out)⟩; have n2_ : Aside0 (Below w.heap.size w w5) := ⟨by rw [← hq_]; exact (by repeat (first | (with_reducible first | exact HB.out | apply below_alloc | apply pw_below_drewN | apply below_drew1 | refine below_set ?_ GE269.out | refine below_set ?_ GE270.out) | exact HB.out))⟩; clear BK269 BK270 HB hq_; have BK269 := n0_; have BK270 := n1_; have HB := n2_; clear n0_ n1_ n2_)); have hcz9_0 : w5.cell? ⟨gb270, 0, none⟩ = some (.int .i64 0) := (blk_cell BK270.out 0).trans rfl; have hcz9_1 : w5.cell? ⟨gb270, 1, none⟩ = some (.int .i64 0) := (blk_cell BK270.out 1).trans rfl; have hcz9_2 : w5.cell? ⟨gb270, 2, none⟩ = some (.int .i64 0) := (blk_cell BK270.out 2).trans rfl; have hfz9_0 := blk_frozen BK270.out 0; have hfz9_1 := blk_frozen BK270.out 1; have hfz9_2 := blk_frozen BK270.out 2))
  refine bodyPost_ret (results_cell_row rfl _ _ gb270 25 #[.int .i64 t274, .int .i64 t273, .int .i64 t272] (0, 0) _ rfl (by (with_reducible repeat (first | refine blk_drewN ?_ _ | refine blk_drew ?_ | refine blk_alloc ?_ _)); refine blk_put (cs := #[.int .i64 t274, .int .i64 t273, .int .i64 0]) ?_ 2 _ rfl; (with_reducible repeat (first | refine blk_drewN ?_ _ | refine blk_drew ?_ | refine blk_alloc ?_ _)); refine blk_put (cs := #[.int .i64 t274, .int .i64 0, .int .i64 0]) ?_ 1 _ rfl; (with_reducible repeat (first | refine blk_drewN ?_ _ | refine blk_drew ?_ | refine blk_alloc ?_ _)); refine blk_put (cs := #[.int .i64 0, .int .i64 0, .int .i64 0]) ?_ 0 _ rfl; (with_reducible repeat (first | refine blk_drewN ?_ _ | refine blk_drew ?_ | refine blk_alloc ?_ _)); exact BK270.out) Tryd.underlying25 rfl (by kernel_rfl)) rfl ?_
  exact ⟨by first | rfl | (simp [errW_none, errW_some] <;> rfl) | (simp [*, errW_none, errW_some] <;> rfl), by repeat (first | (with_reducible first | exact HB.out | apply below_alloc | apply pw_below_drewN | apply below_drew1 | refine below_set ?_ GE269.out | refine below_set ?_ GE270.out) | exact HB.out)⟩

/-! ### impl_Shift_plus: function 49 -/
def impl_Shift_plus.f (a0_0 : Int) (a0_1 : Int) (a0_2 : Int) (a1_0 : Int) (a1_1 : Int) (a1_2 : Int) (a2 : Int) : Option (Int × Int × Int) := some (wrap64 (a0_0 + (wrap64 (a2 * a1_0))), wrap64 (a0_1 + (wrap64 (a2 * a1_1))), wrap64 (a0_2 + (wrap64 (a2 * a1_2))))
set_option maxHeartbeats 8000000 in
set_option maxRecDepth 100000 in
theorem impl_Shift_plus.calls (a0_0 : Int) (a0_1 : Int) (a0_2 : Int) (a1_0 : Int) (a1_1 : Int) (a1_2 : Int) (a2 : Int) (r1 : Int) (r2 : Int) (r3 : Int) (w : World) (h : impl_Shift_plus.f a0_0 a0_1 a0_2 a1_0 a1_1 a1_2 a2 = some (r1, r2, r3)) :
    Calls Tryd.prog 49 #[.agg #[.int .i64 a0_0, .int .i64 a0_1, .int .i64 a0_2], .agg #[.int .i64 a1_0, .int .i64 a1_1, .int .i64 a1_2], .int .i64 a2] w fun e w' => e = .returned (.agg #[.int .i64 r1, .int .i64 r2, .int .i64 r3]) ∧ Below w.heap.size w w' := by
  have hu25 := Tryd.underlying25
  have HB := Aside0.mk (Below.refl w.heap.size w)
  have H : (some (wrap64 (a0_0 + (wrap64 (a2 * a1_0))), wrap64 (a0_1 + (wrap64 (a2 * a1_1))), wrap64 (a0_2 + (wrap64 (a2 * a1_2))))) = some (r1, r2, r3) := h
  clear h
  simp only [Option.some.injEq, Prod.mk.injEq] at H
  obtain ⟨rfl, rfl, rfl⟩ := H
  go_enter Tryd.func49, Tryd.ntmps49
  go_wp2_with (first | ((with_reducible refine gate_dst (N := 3) rfl ?_); refine box_event ?hg (N := 3) ?hd (cs := #[.int .i64 a0_0, .int .i64 a0_1, .int .i64 a0_2]) (t := 25) ?hr ?_; (case hd => rfl); (case hg => rfl); (case hr => first | (go_simp; done) | (go_simp; rfl)); intro gb275 hg w4 hbox hb; have n0_ := Aside0.mk (below_step (by repeat (first | (with_reducible first | exact HB.out | apply below_alloc | apply pw_below_drewN | apply below_drew1) | exact HB.out)) hb); have n1_ := Aside0.mk (hbox); have n2_ := Aside0.mk ((by rw [hg]; exact (below_size (by repeat (first | (with_reducible first | exact HB.out | apply below_alloc | apply pw_below_drewN | apply below_drew1) | exact HB.out))) : w.heap.size ≤ gb275)); have n3_ := Aside0.mk ((by rw [hg]; exact (below_size (by repeat (first | (with_reducible first | exact HB.out | apply below_alloc | apply pw_below_drewN | apply below_drew1) | exact HB.out))) : w.heap.size ≤ gb275)); clear HB; have HB := n0_; have BK275 := n1_; have GW275 := n2_; have GE275 := n3_; clear n0_ n1_ n2_ n3_; clear hb hbox hg) | ((with_reducible refine gate_dst (N := 4) rfl ?_); refine box_event ?hg (N := 4) ?hd (cs := #[.int .i64 a1_0, .int .i64 a1_1, .int .i64 a1_2]) (t := 25) ?hr ?_; (case hd => rfl); (case hg => rfl); (case hr => first | (go_simp; done) | (go_simp; rfl)); intro gb276 hg w5 hbox hb; have n0_ := Aside0.mk (blk_below (g := gb275) (o := .cells #[.int .i64 a0_0, .int .i64 a0_1, .int .i64 a0_2] 25 (0, 0)) (by (with_reducible repeat (first | refine blk_drewN ?_ _ | refine blk_drew ?_ | refine blk_alloc ?_ _)); exact BK275.out) hb); have n1_ := Aside0.mk (below_step (by repeat (first | (with_reducible first | exact HB.out | apply below_alloc | apply pw_below_drewN | apply below_drew1 | refine below_set ?_ GE275.out) | exact HB.out)) hb); have n2_ := Aside0.mk (hbox); have n3_ := Aside0.mk ((by rw [hg]; exact (below_size (by repeat (first | (with_reducible first | exact HB.out | apply below_alloc | apply pw_below_drewN | apply below_drew1 | refine below_set ?_ GE275.out) | exact HB.out))) : w.heap.size ≤ gb276)); have n4_ := Aside0.mk ((by rw [hg]; exact (below_size (by repeat (first | (with_reducible first | exact HB.out | apply below_alloc | apply pw_below_drewN | apply below_drew1 | refine below_set ?_ GE275.out) | exact HB.out))) : w.heap.size ≤ gb276)); have n5_ := Aside0.mk ((by rw [hg]; exact Nat.ne_of_lt (blk_lt (g := gb275) (o := .cells #[.int .i64 a0_0, .int .i64 a0_1, .int .i64 a0_2] 25 (0, 0)) (by (with_reducible repeat (first | refine blk_drewN ?_ _ | refine blk_drew ?_ | refine blk_alloc ?_ _)); exact BK275.out)) : gb275 ≠ gb276)); have n6_ := Aside0.mk ((by rw [hg]; exact Nat.ne_of_gt (blk_lt (g := gb275) (o := .cells #[.int .i64 a0_0, .int .i64 a0_1, .int .i64 a0_2] 25 (0, 0)) (by (with_reducible repeat (first | refine blk_drewN ?_ _ | refine blk_drew ?_ | refine blk_alloc ?_ _)); exact BK275.out)) : gb276 ≠ gb275)); clear BK275; clear HB; have BK275 := n0_; have HB := n1_; have BK276 := n2_; have GW276 := n3_; have GE276 := n4_; have NB275_276 := n5_; have NB276_275 := n6_; clear n0_ n1_ n2_ n3_ n4_ n5_ n6_; clear hb hbox hg) | ((with_reducible refine gate_dst (N := 6) rfl ?_); refine box_event ?hg (N := 6) ?hd (cs := #[.int .i64 0, .int .i64 0, .int .i64 0]) (t := 25) ?hr ?_; (case hd => rfl); (case hg => rfl); (case hr => first | (go_simp; done) | (go_simp; rfl)); intro gb277 hg w6 hbox hb; have n0_ := Aside0.mk (blk_below (g := gb275) (o := .cells #[.int .i64 a0_0, .int .i64 a0_1, .int .i64 a0_2] 25 (0, 0)) (by (with_reducible repeat (first | refine blk_drewN ?_ _ | refine blk_drew ?_ | refine blk_alloc ?_ _)); exact BK275.out) hb); have n1_ := Aside0.mk (blk_below (g := gb276) (o := .cells #[.int .i64 a1_0, .int .i64 a1_1, .int .i64 a1_2] 25 (0, 0)) (by (with_reducible repeat (first | refine blk_drewN ?_ _ | refine blk_drew ?_ | refine blk_alloc ?_ _)); exact BK276.out) hb); have n2_ := Aside0.mk (below_step (by repeat (first | (with_reducible first | exact HB.out | apply below_alloc | apply pw_below_drewN | apply below_drew1 | refine below_set ?_ GE275.out | refine below_set ?_ GE276.out) | exact HB.out)) hb); have n3_ := Aside0.mk (hbox); have n4_ := Aside0.mk ((by rw [hg]; exact (below_size (by repeat (first | (with_reducible first | exact HB.out | apply below_alloc | apply pw_below_drewN | apply below_drew1 | refine below_set ?_ GE275.out | refine below_set ?_ GE276.out) | exact HB.out))) : w.heap.size ≤ gb277)); have n5_ := Aside0.mk ((by rw [hg]; exact (below_size (by repeat (first | (with_reducible first | exact HB.out | apply below_alloc | apply pw_below_drewN | apply below_drew1 | refine below_set ?_ GE275.out | refine below_set ?_ GE276.out) | exact HB.out))) : w.heap.size ≤ gb277)); have n6_ := Aside0.mk ((by rw [hg]; exact Nat.ne_of_lt (blk_lt (g := gb275) (o := .cells #[.int .i64 a0_0, .int .i64 a0_1, .int .i64 a0_2] 25 (0, 0)) (by (with_reducible repeat (first | refine blk_drewN ?_ _ | refine blk_drew ?_ | refine blk_alloc ?_ _)); exact BK275.out)) : gb275 ≠ gb277)); have n7_ := Aside0.mk ((by rw [hg]; exact Nat.ne_of_gt (blk_lt (g := gb275) (o := .cells #[.int .i64 a0_0, .int .i64 a0_1, .int .i64 a0_2] 25 (0, 0)) (by (with_reducible repeat (first | refine blk_drewN ?_ _ | refine blk_drew ?_ | refine blk_alloc ?_ _)); exact BK275.out)) : gb277 ≠ gb275)); have n8_ := Aside0.mk ((by rw [hg]; exact Nat.ne_of_lt (blk_lt (g := gb276) (o := .cells #[.int .i64 a1_0, .int .i64 a1_1, .int .i64 a1_2] 25 (0, 0)) (by (with_reducible repeat (first | refine blk_drewN ?_ _ | refine blk_drew ?_ | refine blk_alloc ?_ _)); exact BK276.out)) : gb276 ≠ gb277)); have n9_ := Aside0.mk ((by rw [hg]; exact Nat.ne_of_gt (blk_lt (g := gb276) (o := .cells #[.int .i64 a1_0, .int .i64 a1_1, .int .i64 a1_2] 25 (0, 0)) (by (with_reducible repeat (first | refine blk_drewN ?_ _ | refine blk_drew ?_ | refine blk_alloc ?_ _)); exact BK276.out)) : gb277 ≠ gb276)); clear BK275; clear BK276; clear HB; have BK275 := n0_; have BK276 := n1_; have HB := n2_; have BK277 := n3_; have GW277 := n4_; have GE277 := n5_; have NB275_277 := n6_; have NB277_275 := n7_; have NB276_277 := n8_; have NB277_276 := n9_; clear n0_ n1_ n2_ n3_ n4_ n5_ n6_ n7_ n8_ n9_; clear hb hbox hg; have hnb7 := NB275_276.out; have hnc7 := NB276_275.out; have hnb8 := NB275_277.out; have hnc8 := NB277_275.out; have hcz9_0 : w6.cell? ⟨gb275, 0, none⟩ = some (.int .i64 a0_0) := (blk_cell BK275.out 0).trans rfl; have hcz9_1 : w6.cell? ⟨gb275, 1, none⟩ = some (.int .i64 a0_1) := (blk_cell BK275.out 1).trans rfl; have hcz9_2 : w6.cell? ⟨gb275, 2, none⟩ = some (.int .i64 a0_2) := (blk_cell BK275.out 2).trans rfl; have hfz9_0 := blk_frozen BK275.out 0; have hfz9_1 := blk_frozen BK275.out 1; have hfz9_2 := blk_frozen BK275.out 2; have hnb10 := NB276_277.out; have hnc10 := NB277_276.out; have hcz11_0 : w6.cell? ⟨gb276, 0, none⟩ = some (.int .i64 a1_0) := (blk_cell BK276.out 0).trans rfl; have hcz11_1 : w6.cell? ⟨gb276, 1, none⟩ = some (.int .i64 a1_1) := (blk_cell BK276.out 1).trans rfl; have hcz11_2 : w6.cell? ⟨gb276, 2, none⟩ = some (.int .i64 a1_2) := (blk_cell BK276.out 2).trans rfl; have hfz11_0 := blk_frozen BK276.out 0; have hfz11_1 := blk_frozen BK276.out 1; have hfz11_2 := blk_frozen BK276.out 2; have hcz12_0 : w6.cell? ⟨gb277, 0, none⟩ = some (.int .i64 0) := (blk_cell BK277.out 0).trans rfl; have hcz12_1 : w6.cell? ⟨gb277, 1, none⟩ = some (.int .i64 0) := (blk_cell BK277.out 1).trans rfl; have hcz12_2 : w6.cell? ⟨gb277, 2, none⟩ = some (.int .i64 0) := (blk_cell BK277.out 2).trans rfl; have hfz12_0 := blk_frozen BK277.out 0; have hfz12_1 := blk_frozen BK277.out 1; have hfz12_2 := blk_frozen BK277.out 2))
  refine bodyPost_ret (results_cell_row rfl _ _ gb277 25 #[.int .i64 (wrap64 (a0_0 + (wrap64 (a2 * a1_0)))), .int .i64 (wrap64 (a0_1 + (wrap64 (a2 * a1_1)))), .int .i64 (wrap64 (a0_2 + (wrap64 (a2 * a1_2))))] (0, 0) _ rfl (by (with_reducible repeat (first | refine blk_drewN ?_ _ | refine blk_drew ?_ | refine blk_alloc ?_ _)); refine blk_put (cs := #[.int .i64 (wrap64 (a0_0 + (wrap64 (a2 * a1_0)))), .int .i64 (wrap64 (a0_1 + (wrap64 (a2 * a1_1)))), .int .i64 0]) ?_ 2 _ rfl; (with_reducible repeat (first | refine blk_drewN ?_ _ | refine blk_drew ?_ | refine blk_alloc ?_ _)); refine blk_put (cs := #[.int .i64 (wrap64 (a0_0 + (wrap64 (a2 * a1_0)))), .int .i64 0, .int .i64 0]) ?_ 1 _ rfl; (with_reducible repeat (first | refine blk_drewN ?_ _ | refine blk_drew ?_ | refine blk_alloc ?_ _)); refine blk_put (cs := #[.int .i64 0, .int .i64 0, .int .i64 0]) ?_ 0 _ rfl; (with_reducible repeat (first | refine blk_drewN ?_ _ | refine blk_drew ?_ | refine blk_alloc ?_ _)); exact BK277.out) Tryd.underlying25 rfl (by kernel_rfl)) rfl ?_
  exact ⟨by first | rfl | (simp [errW_none, errW_some] <;> rfl) | (simp [*, errW_none, errW_some] <;> rfl), by repeat (first | (with_reducible first | exact HB.out | apply below_alloc | apply pw_below_drewN | apply below_drew1 | refine below_set ?_ GE275.out | refine below_set ?_ GE276.out | refine below_set ?_ GE277.out) | exact HB.out)⟩

/-! ### impl_place: function 52 (by hand) -/
/-- One leg of a round: the stations' marks, their places, the tree's marks, whether something was placed. -/
def netStep (k : Nat) (x : S28) (i : Nat) (P : List Bool) (Q : List S25) (T : List Bool) (again : Bool) : Option (List Bool × List S25 × List Bool × Bool) :=
  if 0 ≤ x.f0 ∧ x.f0 < 8 ∧ 0 ≤ x.f1 ∧ x.f1 < 8 then
    if P.getD x.f0.toNat false = P.getD x.f1.toNat false then some (P, Q, T, again)
    else if P.getD x.f0.toNat false = true then
      (impl_Leg_shift.f k x.f0 x.f1 x.f2 x.f3 x.f4).bind fun s => (impl_Shift_plus.f (Q.getD x.f0.toNat ⟨0, 0, 0⟩).f0 (Q.getD x.f0.toNat ⟨0, 0, 0⟩).f1 (Q.getD x.f0.toNat ⟨0, 0, 0⟩).f2 s.1 s.2.1 s.2.2 1).bind fun q =>
        some (P.set x.f1.toNat true, Q.set x.f1.toNat ⟨q.1, q.2.1, q.2.2⟩, T.set i true, true)
    else
      (impl_Leg_shift.f k x.f0 x.f1 x.f2 x.f3 x.f4).bind fun s => (impl_Shift_plus.f (Q.getD x.f1.toNat ⟨0, 0, 0⟩).f0 (Q.getD x.f1.toNat ⟨0, 0, 0⟩).f1 (Q.getD x.f1.toNat ⟨0, 0, 0⟩).f2 s.1 s.2.1 s.2.2 (-1)).bind fun q =>
        some (P.set x.f0.toNat true, Q.set x.f0.toNat ⟨q.1, q.2.1, q.2.2⟩, T.set i true, true)
  else none
/-- One round over the legs from the i-th on. -/
def netRow (k : Nat) : List S28 → Nat → List Bool → List S25 → List Bool → Bool → Option (List Bool × List S25 × List Bool × Bool)
  | [], _, P, Q, T, again => some (P, Q, T, again)
  | x :: xs, i, P, Q, T, again => (netStep k x i P Q T again).bind fun t => netRow k xs (i + 1) t.1 t.2.1 t.2.2.1 t.2.2.2
/-- Rounds until nothing is placed any more. -/
def netRun (k : Nat) (legs : List S28) : Nat → List Bool → List S25 → List Bool → Option (List Bool × List S25 × List Bool)
  | 0, _, _, _ => none
  | m + 1, P, Q, T => (netRow k legs 0 P Q T false).bind fun t => if t.2.2.2 = true then netRun k legs m t.1 t.2.1 t.2.2.1 else some (t.1, t.2.1, t.2.2.1)
/-- The closing legs from the i-th on. -/
def netClosing (P T : List Bool) : List S28 → Nat → List Int
  | [], _ => []
  | x :: xs, i => if P.getD x.f0.toNat false = true ∧ T.getD i false = false then (i : Int) :: netClosing P T xs (i + 1) else netClosing P T xs (i + 1)
def impl_place.f (k : Nat) (l0 : List S28) : Option (List Bool × List S25 × List Bool × List Int) :=
  if l0.length ≤ 12 then (netRun k l0 k [true, false, false, false, false, false, false, false] (List.replicate 8 ⟨0, 0, 0⟩) (List.replicate l0.length false)).bind fun t => some (t.1, t.2.1, t.2.2, netClosing t.1 t.2.2 l0 0) else none
theorem netStep.mono (k : Nat) (x : S28) (i : Nat) (P : List Bool) (Q : List S25) (T : List Bool) (again : Bool) : LeO (netStep k x i P Q T again) (netStep (k + 1) x i P Q T again) := by
  have ih0 := impl_Leg_shift.mono x.f0 x.f1 x.f2 x.f3 x.f4 k
  unfold netStep
  repeat' first
    | exact ih0
    | exact LeO.refl _
    | refine LeO.ite ?_ ?_
    | refine LeO.bind ?_ (fun _ => ?_)
theorem netRow.mono (k : Nat) : ∀ (l : List S28) (i : Nat) (P : List Bool) (Q : List S25) (T : List Bool) (again : Bool), LeO (netRow k l i P Q T again) (netRow (k + 1) l i P Q T again)
  | [], _, _, _, _, _ => LeO.refl _
  | x :: xs, i, P, Q, T, again => by
    simp only [netRow]
    exact LeO.bind (netStep.mono k x i P Q T again) (fun t => netRow.mono k xs (i + 1) t.1 t.2.1 t.2.2.1 t.2.2.2)
theorem netRun.mono (k : Nat) (l : List S28) : ∀ (m : Nat) (P : List Bool) (Q : List S25) (T : List Bool), LeO (netRun k l m P Q T) (netRun (k + 1) l (m + 1) P Q T)
  | 0, _, _, _ => LeO.none _
  | m + 1, P, Q, T => by
    have ih := netRun.mono k l m
    rw [netRun, netRun.eq_2 (k + 1)]
    refine LeO.bind (netRow.mono k l 0 P Q T false) (fun t => ?_)
    exact LeO.ite (ih t.1 t.2.1 t.2.2.1) (LeO.refl _)
theorem impl_place.mono : ∀ a0 k, LeO (impl_place.f k a0) (impl_place.f (k + 1) a0) := by
  intro a0 k
  unfold impl_place.f
  exact LeO.ite (LeO.bind (netRun.mono k a0 k _ _ _) (fun _ => LeO.refl _)) (LeO.refl _)

def encQ (Q : List S25) : List Value := (Q.map fun s => [Value.int .i64 s.f0, Value.int .i64 s.f1, Value.int .i64 s.f2]).flatten
def encN (P : List Bool) (Q : List S25) (vT vC : Value) : Array Value := (P.map Value.bool ++ encQ Q ++ [vT, vC]).toArray
theorem rd_T28_drop (l : List S28) (j : Nat) (h : j < l.length) : l.drop j = rd_T28 l (j : Int) :: l.drop (j + 1) := by
  rw [List.drop_eq_getElem_cons h]
  congr 1
  simp [rd_T28, h]
structure IsNet (w0 w : World) (g : Nat) (P : List Bool) (Q : List S25) (T : List Bool) (C : List Int) : Prop where
  pl : P.length = 8
  ql : Q.length = 8
  ge : w0.heap.size ≤ g
  tl : T.length ≤ 12
  cells : ∃ gT vC, w.heap[g]? = some (.cells (encN P Q (.slice (some ⟨gT, 0, none⟩) T.length T.length) vC) 68 (0, 0)) ∧ w.heap[gT]? = some (.cells (T.map Value.bool).toArray 4 (0, 0)) ∧ Kd.R (Kd.int .i64) 3 w w0.heap.size (fun k_ => k_ ≠ g) vC C
theorem IsNet.step {w0 w w2 : World} {g : Nat} {P : List Bool} {Q : List S25} {T : List Bool} {C : List Int} (h : IsNet w0 w g P Q T C) (hb : Below w.heap.size w w2) : IsNet w0 w2 g P Q T C := by
  obtain ⟨gT, vC, h1, h2, h3⟩ := h.cells
  exact ⟨h.pl, h.ql, h.ge, h.tl, gT, vC, blk_below h1 hb, blk_below h2 hb, Kd.R_below h3 hb⟩
theorem info4 : (Tryd.prog.info? 4).map (fun i => (i.zero, i.size, i.bytes)) = some (some (.bool false), 1, 1) := by kernel_rfl

theorem encQ_len (Q : List S25) : (encQ Q).length = 3 * Q.length := by
  induction Q with
  | nil => rfl
  | cons a Q ih => simp only [encQ, List.map_cons, List.flatten_cons, List.length_append] at *; simp [ih]; omega
theorem encQ_get : ∀ (Q : List S25) (i c : Nat), i < Q.length → c < 3 → (encQ Q)[3 * i + c]? = some (.int .i64 (if c = 0 then (Q.getD i ⟨0, 0, 0⟩).f0 else if c = 1 then (Q.getD i ⟨0, 0, 0⟩).f1 else (Q.getD i ⟨0, 0, 0⟩).f2))
  | [], i, c, h, _ => by simp at h
  | q :: Q, 0, c, _, hc => by
    have : c = 0 ∨ c = 1 ∨ c = 2 := by omega
    rcases this with rfl | rfl | rfl <;> simp [encQ]
  | q :: Q, i + 1, c, h, hc => by
    have ih := encQ_get Q i c (by simpa using h) hc
    have e : encQ (q :: Q) = [Value.int .i64 q.f0, Value.int .i64 q.f1, Value.int .i64 q.f2] ++ encQ Q := by simp [encQ]
    rw [e, List.getElem?_append_right (by simp; omega)]
    have e2 : 3 * (i + 1) + c - [Value.int .i64 q.f0, Value.int .i64 q.f1, Value.int .i64 q.f2].length = 3 * i + c := by simp; omega
    rw [e2, ih]
    simp
theorem encQ_set : ∀ (Q : List S25) (i : Nat) (q : S25), i < Q.length → (((encQ Q).set (3 * i) (.int .i64 q.f0)).set (3 * i + 1) (.int .i64 q.f1)).set (3 * i + 2) (.int .i64 q.f2) = encQ (Q.set i q)
  | [], i, q, h => by simp at h
  | a :: Q, 0, q, _ => by simp [encQ]
  | a :: Q, i + 1, q, h => by
    have ih := encQ_set Q i q (by simpa using h)
    have e : ∀ (b : S25) (R : List S25), encQ (b :: R) = .int .i64 b.f0 :: .int .i64 b.f1 :: .int .i64 b.f2 :: encQ R := by intro b R; simp [encQ]
    rw [List.set_cons_succ, e, e, ← ih]
    have e1 : 3 * (i + 1) = 3 * i + 1 + 1 + 1 := by omega
    rw [e1]
    simp only [List.set_cons_succ, show 3 * i + 1 + 1 + 1 + 1 = (3 * i + 1) + 1 + 1 + 1 by omega, show 3 * i + 1 + 1 + 1 + 2 = (3 * i + 2) + 1 + 1 + 1 by omega]
theorem encN_p {P : List Bool} {Q : List S25} {vT vC : Value} (i : Nat) (h : i < P.length) : (encN P Q vT vC)[i]? = some (.bool (P.getD i false)) := by
  unfold encN
  rw [List.getElem?_toArray, List.append_assoc, List.getElem?_append_left (by simpa using h)]
  simp [h]
theorem encN_q {P : List Bool} {Q : List S25} {vT vC : Value} (hp : P.length = 8) (i c : Nat) (h : i < Q.length) (hc : c < 3) : (encN P Q vT vC)[8 + (3 * i + c)]? = some (.int .i64 (if c = 0 then (Q.getD i ⟨0, 0, 0⟩).f0 else if c = 1 then (Q.getD i ⟨0, 0, 0⟩).f1 else (Q.getD i ⟨0, 0, 0⟩).f2)) := by
  have hl := encQ_len Q
  unfold encN
  rw [List.getElem?_toArray, List.append_assoc, List.getElem?_append_right (by simp; omega)]
  have e : 8 + (3 * i + c) - (P.map Value.bool).length = 3 * i + c := by simp; omega
  rw [e, List.getElem?_append_left (by omega)]
  exact encQ_get Q i c h hc
theorem encN_t {P : List Bool} {Q : List S25} {vT vC : Value} (hp : P.length = 8) (hq : Q.length = 8) : (encN P Q vT vC)[32]? = some vT := by
  have hl := encQ_len Q
  unfold encN
  rw [List.getElem?_toArray, List.getElem?_append_right (by simp; omega)]
  have e : 32 - (P.map Value.bool ++ encQ Q).length = 0 := by simp; omega
  rw [e]; rfl
theorem encN_c {P : List Bool} {Q : List S25} {vT vC : Value} (hp : P.length = 8) (hq : Q.length = 8) : (encN P Q vT vC)[33]? = some vC := by
  have hl := encQ_len Q
  unfold encN
  rw [List.getElem?_toArray, List.getElem?_append_right (by simp; omega)]
  have e : 33 - (P.map Value.bool ++ encQ Q).length = 1 := by simp; omega
  rw [e]; rfl
theorem encN_setP {P : List Bool} {Q : List S25} {vT vC : Value} (i : Nat) (h : i < P.length) (b : Bool) : (encN P Q vT vC).setIfInBounds i (.bool b) = encN (P.set i b) Q vT vC := by
  unfold encN
  rw [List.setIfInBounds_toArray, List.append_assoc, List.set_append_left _ _ (by simpa using h), List.map_set, ← List.append_assoc]
theorem encN_setQ {P : List Bool} {Q : List S25} {vT vC : Value} (hp : P.length = 8) (i : Nat) (h : i < Q.length) (q : S25) : (((encN P Q vT vC).setIfInBounds (8 + 3 * i) (.int .i64 q.f0)).setIfInBounds (8 + 3 * i + 1) (.int .i64 q.f1)).setIfInBounds (8 + 3 * i + 2) (.int .i64 q.f2) = encN P (Q.set i q) vT vC := by
  have hl := encQ_len Q
  unfold encN
  have key : ∀ (M : List Value) (d : Nat) (v : Value), d < M.length → (P.map Value.bool ++ M ++ [vT, vC]).set (8 + d) v = P.map Value.bool ++ M.set d v ++ [vT, vC] := by
    intro M d v hd
    rw [List.append_assoc, List.set_append_right _ _ (by simp; omega)]
    have e : 8 + d - (P.map Value.bool).length = d := by simp; omega
    rw [e, List.set_append_left _ _ hd, ← List.append_assoc]
  rw [List.setIfInBounds_toArray, List.setIfInBounds_toArray, List.setIfInBounds_toArray, key _ _ _ (by omega), Nat.add_assoc 8, key _ _ _ (by simp; omega), Nat.add_assoc 8, key _ _ _ (by simp; omega), encQ_set Q i q h]
theorem encN_setC {P : List Bool} {Q : List S25} {vT vC : Value} (hp : P.length = 8) (hq : Q.length = 8) (v : Value) : (encN P Q vT vC).setIfInBounds 33 v = encN P Q vT v := by
  have hl := encQ_len Q
  unfold encN
  rw [List.setIfInBounds_toArray, List.set_append_right _ _ (by simp; omega)]
  have e : 33 - (P.map Value.bool ++ encQ Q).length = 1 := by simp; omega
  rw [e]; rfl
/-- The network on its way: its own block g, the tree's marks at gT. -/
structure OnWay (w W : World) (g gT n : Nat) (P : List Bool) (Q : List S25) (T : List Bool) : Prop where
  pl : P.length = 8
  ql : Q.length = 8
  tl : T.length = n
  bg : W.heap[g]? = some (.cells (encN P Q (.slice (some ⟨gT, 0, none⟩) n n) (.slice none 0 0)) 68 (0, 0))
  bt : W.heap[gT]? = some (.cells (T.map Value.bool).toArray 4 (0, 0))
  be : Below w.heap.size w W
theorem netRow_val {k : Nat} : ∀ (l : List S28) (i : Nat) (P : List Bool) (Q : List S25) (T : List Bool) (a : Bool) (t : List Bool × List S25 × List Bool × Bool), netRow k l i P Q T a = some t → ∀ x ∈ l, 0 ≤ x.f0 ∧ x.f0 < 8 ∧ 0 ≤ x.f1 ∧ x.f1 < 8
  | [], _, _, _, _, _, _, _, x, hx => by simp at hx
  | y :: l, i, P, Q, T, a, t, h, x, hx => by
    obtain ⟨t1, h1, h2⟩ := Option.bind_eq_some_iff.mp h
    rcases List.mem_cons.mp hx with rfl | hx
    · unfold netStep at h1
      split at h1
      · assumption
      · cases h1
    · exact netRow_val l (i + 1) _ _ _ _ _ h2 x hx
theorem netRun_val {k m : Nat} {l : List S28} {P : List Bool} {Q : List S25} {T : List Bool} {t : List Bool × List S25 × List Bool} (h : netRun k l m P Q T = some t) : ∀ x ∈ l, 0 ≤ x.f0 ∧ x.f0 < 8 ∧ 0 ≤ x.f1 ∧ x.f1 < 8 := by
  cases m with
  | zero => cases h
  | succ m =>
    obtain ⟨t1, h1, _⟩ := Option.bind_eq_some_iff.mp h
    exact netRow_val l 0 _ _ _ _ _ h1
structure Clos (w W : World) (g gT n : Nat) (P : List Bool) (Q : List S25) (T : List Bool) (vC : Value) (C : List Int) : Prop where
  pl : P.length = 8
  ql : Q.length = 8
  tl : T.length = n
  bg : W.heap[g]? = some (.cells (encN P Q (.slice (some ⟨gT, 0, none⟩) n n) vC) 68 (0, 0))
  bt : W.heap[gT]? = some (.cells (T.map Value.bool).toArray 4 (0, 0))
  be : Below w.heap.size w W
  rc : Kd.R (Kd.int .i64) 3 W w.heap.size (fun k_ => k_ ≠ g) vC C
theorem Clos.step {w W W2 : World} {g gT n : Nat} {P : List Bool} {Q : List S25} {T : List Bool} {vC : Value} {C : List Int} (h : Clos w W g gT n P Q T vC C) (hb : Below W.heap.size W W2) : Clos w W2 g gT n P Q T vC C :=
  ⟨h.pl, h.ql, h.tl, blk_below h.bg hb, blk_below h.bt hb, below_step h.be hb, Kd.R_below h.rc hb⟩
theorem OnWay.step {w W W2 : World} {g gT n : Nat} {P : List Bool} {Q : List S25} {T : List Bool} (h : OnWay w W g gT n P Q T) (hb : Below W.heap.size W W2) : OnWay w W2 g gT n P Q T :=
  ⟨h.pl, h.ql, h.tl, blk_below h.bg hb, blk_below h.bt hb, below_step h.be hb⟩
theorem OnWay.cellQ {w W : World} {g gT n : Nat} {P : List Bool} {Q : List S25} {T : List Bool} (h : OnWay w W g gT n P Q T) (i : Nat) (hi : i < 8) : W.cell? ⟨g, 8 + i * 3, none⟩ = some (.int .i64 (Q.getD i ⟨0, 0, 0⟩).f0) ∧ W.cell? ⟨g, 8 + i * 3 + 1, none⟩ = some (.int .i64 (Q.getD i ⟨0, 0, 0⟩).f1) ∧ W.cell? ⟨g, 8 + i * 3 + 2, none⟩ = some (.int .i64 (Q.getD i ⟨0, 0, 0⟩).f2) := by
  have q8 := h.ql
  have e0 := (blk_cell h.bg (8 + (3 * i + 0))).trans (encN_q h.pl i 0 (by omega) (by omega))
  have e1 := (blk_cell h.bg (8 + (3 * i + 1))).trans (encN_q h.pl i 1 (by omega) (by omega))
  have e2 := (blk_cell h.bg (8 + (3 * i + 2))).trans (encN_q h.pl i 2 (by omega) (by omega))
  rw [show 8 + (3 * i + 0) = 8 + i * 3 by omega] at e0
  rw [show 8 + (3 * i + 1) = 8 + i * 3 + 1 by omega] at e1
  rw [show 8 + (3 * i + 2) = 8 + i * 3 + 2 by omega] at e2
  exact ⟨e0, e1, e2⟩
theorem OnWay.setQ {w W : World} {g gT n : Nat} {P : List Bool} {Q : List S25} {T : List Bool} (h : OnWay w W g gT n P Q T) (hg : w.heap.size ≤ g) (hne : gT ≠ g) (i : Nat) (hi : i < 8) (q : S25) : OnWay w (((W.setCell ⟨g, 8 + i * 3, none⟩ (.int .i64 q.f0)).setCell ⟨g, 8 + i * 3 + 1, none⟩ (.int .i64 q.f1)).setCell ⟨g, 8 + i * 3 + 2, none⟩ (.int .i64 q.f2)) g gT n P (Q.set i q) T := by
  have q8 := h.ql
  refine ⟨h.pl, by simpa using q8, h.tl, ?_, blk_far (blk_far (blk_far h.bt hne _) hne _) hne _, below_set (below_set (below_set h.be hg) hg) hg⟩
  have e := encN_setQ (P := P) (Q := Q) (vT := .slice (some ⟨gT, 0, none⟩) n n) (vC := .slice none 0 0) h.pl i (by omega) q
  rw [← e, show 8 + 3 * i = 8 + i * 3 by omega]
  exact blk_set (blk_set (blk_set h.bg _ _) _ _) _ _
theorem OnWay.setP {w W : World} {g gT n : Nat} {P : List Bool} {Q : List S25} {T : List Bool} (h : OnWay w W g gT n P Q T) (hg : w.heap.size ≤ g) (hne : gT ≠ g) (i : Nat) (hi : i < 8) : OnWay w (W.setCell ⟨g, i, none⟩ (.bool true)) g gT n (P.set i true) Q T := by
  have p8 := h.pl
  refine ⟨by simpa using p8, h.ql, h.tl, ?_, blk_far h.bt hne _, below_set h.be hg⟩
  rw [← encN_setP (P := P) (Q := Q) (vT := .slice (some ⟨gT, 0, none⟩) n n) (vC := .slice none 0 0) i (by omega) true]
  exact blk_set h.bg _ _
theorem OnWay.setT {w W : World} {g gT n : Nat} {P : List Bool} {Q : List S25} {T : List Bool} (h : OnWay w W g gT n P Q T) (hg : w.heap.size ≤ gT) (hne : gT ≠ g) (i : Nat) : OnWay w (W.setCell ⟨gT, i, none⟩ (.bool true)) g gT n P Q (T.set i true) := by
  have t8 := h.tl
  refine ⟨h.pl, h.ql, by simpa using t8, blk_far h.bg (Ne.symm hne) _, ?_, below_set h.be hg⟩
  have e : ((T.map Value.bool).toArray).setIfInBounds i (.bool true) = ((T.set i true).map Value.bool).toArray := by rw [List.setIfInBounds_toArray, List.map_set]
  rw [← e]
  exact blk_set h.bt _ _
theorem getD_set_ne {α : Type} (l : List α) (i j : Nat) (x d : α) (h : i ≠ j) : (l.set i x).getD j d = l.getD j d := by
  rw [List.getD_eq_getElem?_getD, List.getElem?_set_ne h, ← List.getD_eq_getElem?_getD]
theorem bcell_ {W w1 : World} (hb : Below W.heap.size W w1) : (∀ b o, b < W.heap.size → w1.cell? ⟨b, o, none⟩ = W.cell? ⟨b, o, none⟩) ∧ (∀ b o, b < W.heap.size → w1.frozen? ⟨b, o, none⟩ = W.frozen? ⟨b, o, none⟩) :=
  ⟨fun b o h => hb.cell (p := ⟨b, o, none⟩) h, fun b o h => hb.frozen (p := ⟨b, o, none⟩) h⟩
set_option maxHeartbeats 8000000 in
set_option maxRecDepth 100000 in
theorem impl_place.calls (k : Nat) (A0 : Option Addr) (c0 : Nat) (l0 : List S28) (P : List Bool) (Q : List S25) (T : List Bool) (C : List Int) (w : World) (hT : Tab w) (hr0 : Kd.C k28 w A0 l0.length l0) (hc0 : l0.length ≤ c0) (h : impl_place.f k l0 = some (P, Q, T, C)) :
    Calls Tryd.prog 52 #[.slice A0 l0.length c0] w fun e w' => ∃ g, e = .returned (.pointer (some ⟨g, 0, none⟩)) ∧ IsNet w w' g P Q T C ∧ Below w.heap.size w w' := by
  unfold impl_place.f at h
  split at h
  case isFalse => cases h
  rename_i hlen
  have HLen := Aside0.mk hlen
  have HT := Aside0.mk hT
  have HR0 := Aside0.mk hr0
  have HC0 := Aside0.mk hc0
  obtain ⟨⟨Pf, Qf, Tf⟩, hrun, hcl⟩ := Option.bind_eq_some_iff.mp h
  simp only [Option.some.injEq, Prod.mk.injEq] at hcl
  obtain ⟨rfl, rfl, rfl, rfl⟩ := hcl
  have HRun := Aside0.mk hrun
  have HVal := Aside0.mk (netRun_val hrun)
  clear h hT hr0 hc0 hlen hrun
  have HB := Aside0.mk (Below.refl w.heap.size w)
  have hMake := print_make_of (P := Tryd.prog) 66 4 (.bool false) 1 Tryd.underlying66 info4 rfl (by decide) l0.length (by have := HLen.out; omega)
  go_enter Tryd.func52, Tryd.ntmps52
  go_wp2
  clear hMake
  go_loopg [4] k (fun kq v4 w' => ∃ (b : Bool) (P' : List Bool) (Q' : List S25) (T' : List Bool), v4 = .bool b ∧ Aside0 ((b = true ∧ netRun k l0 kq P' Q' T' = some (Pf, Qf, Tf)) ∨ (b = false ∧ P' = Pf ∧ Q' = Qf ∧ T' = Tf)) ∧ Aside0 (OnWay w w' (w.heap.size + 1) w.heap.size l0.length P' Q' T'))
  case atStart =>
    refine ⟨true, _, _, _, rfl, ⟨.inl ⟨rfl, HRun.out⟩⟩, ⟨⟨rfl, by simp, by simp, ?_, ?_, ?_⟩⟩⟩
    · have e := blk_new (w.alloc (.cells (madeCells #[Value.bool false] l0.length) 4)) (.cells (encN [true, false, false, false, false, false, false, false] (List.replicate 8 ⟨0, 0, 0⟩) (.slice (some ⟨w.heap.size, 0, none⟩) l0.length l0.length) (.slice none 0 0)) 68)
      have e2 : (w.alloc (.cells (madeCells #[Value.bool false] l0.length) 4)).heap.size = w.heap.size + 1 := by simp
      rw [e2] at e
      exact e
    · have e : madeCells #[Value.bool false] l0.length = ((List.replicate l0.length false).map Value.bool).toArray := by
        apply Array.ext'
        apply List.ext_getElem
        · simp [madeCells]
        · intro i h1 h2
          simp [madeCells, Nat.mod_one]
      rw [← e]
      exact blk_alloc (blk_new w _) _
    · exact below_alloc (below_alloc (Below.refl _ _) _) _
  case round =>
    obtain ⟨b, P', Q', T', rfl, HN, HO⟩ := hrel
    cases b with
    | false =>
      obtain ⟨rfl, rfl, rfl⟩ : P' = Pf ∧ Q' = Qf ∧ T' = Tf := by
        rcases HN.out with ⟨h, _⟩ | ⟨_, h⟩
        · cases h
        · exact h
      clear HN HRun HB
      go_wp2
      go_loopg [101] l0.length (fun kq v101 w' => ∃ (j : Nat) (vC : Value) (acc : List Int), v101 = .int .i64 j ∧ Aside0 (kq + j = l0.length) ∧ Aside0 (acc.length ≤ j) ∧ Aside0 (acc ++ netClosing P' T' (l0.drop j) j = netClosing P' T' l0 0) ∧ Aside0 (Clos w w' (w.heap.size + 1) w.heap.size l0.length P' Q' T' vC acc))
      case atStart => exact ⟨0, _, [], rfl, ⟨rfl⟩, ⟨Nat.le_refl _⟩, ⟨rfl⟩, ⟨HO.out.pl, HO.out.ql, HO.out.tl, HO.out.bg, HO.out.bt, HO.out.be, Kd.R_nil _ _ _ _ _⟩⟩
      case round =>
        clear HO
        obtain ⟨j, vC, acc, rfl, HJ, HA, HE, HO⟩ := hrel
        cases gk with
        | zero =>
          have c1 : ¬ j < l0.length := by have := HJ.out; omega
          have c1n : decide (j < l0.length) = false := decide_eq_false c1
          have c1b : decide ((j : Int) < (l0.length : Int)) = false := decide_eq_false (by omega)
          have H := HE.out
          rw [List.drop_of_length_le (by omega)] at H
          simp only [netClosing, List.append_nil] at H
          have HE2 := Aside0.mk H
          clear c1 H HE
          go_wp2
          go_ret
          refine ⟨w.heap.size + 1, rfl, ⟨HO.out.pl, HO.out.ql, by omega, by have := HO.out.tl; have := HLen.out; omega, w.heap.size, vC, ?_, HO.out.bt, by rw [← HE2.out]; exact HO.out.rc⟩, HO.out.be⟩
          rw [HO.out.tl]
          exact HO.out.bg
        | succ q =>
          have c1 : j < l0.length := by have := HJ.out; omega
          have c1n : decide (j < l0.length) = true := decide_eq_true c1
          have c1b : decide ((j : Int) < (l0.length : Int)) = true := decide_eq_true (by omega)
          obtain ⟨ad, e1, hx0, hx1, hx2, hx3, hx4⟩ := at_T28 HR0.out (j : Int) (by omega) (by omega)
          cases e1
          simp only [Int.toNat_natCast] at hx0 hx1 hx2 hx3 hx4
          have hd := rd_T28_drop l0 j c1
          generalize rd_T28 l0 (j : Int) = x at hx0 hx1 hx2 hx3 hx4 hd
          replace hx0 := (HO.out.be.cell (World.block_lt_of_cell? w _ hx0)).trans hx0
          replace hx1 := (HO.out.be.cell (World.block_lt_of_cell? w _ hx1)).trans hx1
          replace hx2 := (HO.out.be.cell (World.block_lt_of_cell? w _ hx2)).trans hx2
          replace hx3 := (HO.out.be.cell (World.block_lt_of_cell? w _ hx3)).trans hx3
          replace hx4 := (HO.out.be.cell (World.block_lt_of_cell? w _ hx4)).trans hx4
          have HV := HVal.out x (by have : x ∈ l0.drop j := by rw [hd]; exact List.mem_cons_self
                                    exact List.mem_of_mem_drop this)
          have H := HE.out
          rw [hd] at H
          simp only [netClosing] at H
          have hbg := HO.out.bg
          have hp0 : wr.cell? ⟨w.heap.size + 1, x.f0.toNat, none⟩ = some (.bool (P'.getD x.f0.toNat false)) := (blk_cell hbg _).trans (encN_p _ (by have := HO.out.pl; omega))
          have hlt := blk_lt hbg
          have hne : w.heap.size + 1 ≠ wr.heap.size := by omega
          have hne2 : w.heap.size ≠ wr.heap.size := by omega
          have CJ := Aside0.mk c1
          go_wp2
          go_upto_region 21 with (fail)
          have HX : Aside0 ((wr.alloc (.cells #[.int .i64 x.f0, .int .i64 x.f1, .int .i64 x.f2, .int .i64 x.f3, .int .i64 x.f4] 28)).heap[wr.heap.size]? = some (.cells #[.int .i64 x.f0, .int .i64 x.f1, .int .i64 x.f2, .int .i64 x.f3, .int .i64 x.f4] 28 (0, 0))) := ⟨blk_new wr _⟩
          have HO1 : Aside0 (Clos w (wr.alloc (.cells #[.int .i64 x.f0, .int .i64 x.f1, .int .i64 x.f2, .int .i64 x.f3, .int .i64 x.f4] 28)) (w.heap.size + 1) w.heap.size l0.length P' Q' T' vC acc) := ⟨HO.out.step (below_alloc (Below.refl _ _) _)⟩
          clear hx0 hx1 hx2 hx3 hx4 hp0 c1n c1b HO hne hne2 hlt hbg hd
          generalize (wr.alloc (.cells #[.int .i64 x.f0, .int .i64 x.f1, .int .i64 x.f2, .int .i64 x.f3, .int .i64 x.f4] 28)) = W1 at HX HO1 ⊢
          generalize wr.heap.size = gx at HX ⊢
          have bx0 := blk_cell HX.out 0
          have hp0 : W1.cell? ⟨w.heap.size + 1, x.f0.toNat, none⟩ = some (.bool (P'.getD x.f0.toNat false)) := (blk_cell HO1.out.bg _).trans (encN_p _ (by have := HO1.out.pl; have := HV.1; have := HV.2.1; omega))
          have tc := (blk_cell HO1.out.bg 32).trans (encN_t HO1.out.pl HO1.out.ql)
          have tj : W1.cell? ⟨w.heap.size, j, none⟩ = some (.bool (T'.getD j false)) := (blk_cell HO1.out.bt j).trans (by have := HO1.out.tl; simp [show j < T'.length by omega])
          generalize P'.getD x.f0.toNat false = m0 at hp0 H
          generalize T'.getD j false = t0 at tj H
          have hv0 := HV.1
          have hv1 := HV.2.1
          clear HV
          have ci : (j : Int) < (l0.length : Int) := by omega
          have ci0 : (0 : Int) ≤ (j : Int) := by omega
          cases m0 with
          | false =>
            rw [if_neg (fun h => by cases h.1)] at H
            have HE2 := Aside0.mk H
            clear H
            go_quiet (fail)
            go_wp2
            go_roundg q
            case measure => omega
            case rel => exact ⟨j + 1, vC, acc, congrArg (Value.int .i64) (by have := CJ.out; have := HLen.out; first | rfl | (unfold wrap64; omega) | omega), ⟨by have := HJ.out; omega⟩, ⟨by have := HA.out; omega⟩, HE2, ⟨HO1.out.step (pw_below_drewN (Below.refl _ _) _)⟩⟩
          | true =>
            cases t0 with
            | true =>
              rw [if_neg (fun h => by cases h.2)] at H
              have HE2 := Aside0.mk H
              clear H
              go_quiet (fail)
              go_wp2
              go_roundg q
              case measure => omega
              case rel => exact ⟨j + 1, vC, acc, congrArg (Value.int .i64) (by have := CJ.out; have := HLen.out; first | rfl | (unfold wrap64; omega) | omega), ⟨by have := HJ.out; omega⟩, ⟨by have := HA.out; omega⟩, HE2, ⟨HO1.out.step (pw_below_drewN (Below.refl _ _) _)⟩⟩
            | false =>
              rw [if_pos ⟨rfl, rfl⟩] at H
              have HE2 : Aside0 ((acc ++ [(j : Int)]) ++ netClosing P' T' (l0.drop (j + 1)) (j + 1) = netClosing P' T' l0 0) := ⟨by rw [List.append_assoc]; exact H⟩
              clear H
              go_quiet (fail)
              revert nq
              intro n1
              go_upto_region 22 with (fail)
              have HO2 : Aside0 (Clos w (W1.drewN n1) (w.heap.size + 1) w.heap.size l0.length P' Q' T' vC acc) := ⟨HO1.out.step (pw_below_drewN (Below.refl _ _) _)⟩
              clear hp0 bx0 HX tc tj hv0 hv1 HO1
              generalize (W1.drewN n1) = W2 at HO2 ⊢
              have vc := (blk_cell HO2.out.bg 33).trans (encN_c HO2.out.pl HO2.out.ql)
              have hlt := blk_lt HO2.out.bg
              have hne : w.heap.size + 1 ≠ W2.heap.size := by omega
              have HTV : Aside0 (some w.heap.size ≠ vC.ownBlock) := ⟨Kd.R_ne HO2.out.rc HO2.out.bt (by decide)⟩
              go_wp2_with (first
                | ((with_reducible refine gate_builtin (b := .append) (xs := #[.tmp 127, .tmp 129]) rfl ?_); at_builtin; refine Kd.R_append (Kd.int .i64) (w0 := w) w.heap.size rfl (.tmp 127) (.tmp 129) 45 3 (.int .i64 0) 8 rfl Tryd.underlying45 info3 rfl (by decide) (by omega) vC acc (j : Int) [.int .i64 (j : Int)] (fun k_ => k_ ≠ w.heap.size + 1) (fun _ => False) rfl rfl ?aP (fun _ hk => hk.elim) ?aF HO2.out.rc HO2.out.be (below_size HO2.out.be) ?aL ?_; (case aP => rfl); (case aF => exact (fun k_ hk => by have := hne; have := hlt; omega)); (case aL => have := HA.out; have := CJ.out; have := HLen.out; omega); intro v1 w3 ho hb hg hat; obtain ⟨Av, cv, rfl⟩ := Kd.R_slice ho; have HO3 := Aside0.mk ho; have HB3 := Aside0.mk hb; have BG3 := Aside0.mk (blk_grown HO2.out.bg hg (fun e => HO2.out.rc.1 _ e.symm rfl)); have BT3 := Aside0.mk (blk_grown HO2.out.bt hg HTV.out); have cz := (blk_cell BG3.out 33).trans (encN_c HO2.out.pl HO2.out.ql); have fz := blk_frozen BG3.out 33; clear ho hb hg hat vc))
              go_roundg q
              case measure => omega
              case rel =>
                have e : (acc ++ [(j : Int)]).length = acc.length + 1 := by simp
                have ho := HO3.out
                rw [e] at ho
                exact ⟨j + 1, .slice Av (acc.length + 1) cv, acc ++ [(j : Int)], congrArg (Value.int .i64) (by have := CJ.out; have := HLen.out; first | rfl | (unfold wrap64; omega) | omega), ⟨by have := HJ.out; omega⟩, ⟨by have := HA.out; omega⟩, HE2, ⟨(show Clos w (w3.setCell ⟨w.heap.size + 1, 33, none⟩ (.slice Av (acc.length + 1) cv)) (w.heap.size + 1) w.heap.size l0.length P' Q' T' (.slice Av (acc.length + 1) cv) (acc ++ [(j : Int)]) from ⟨HO2.out.pl, HO2.out.ql, HO2.out.tl, blk_put BG3.out 33 _ (encN_setC HO2.out.pl HO2.out.ql _), blk_far BT3.out (by simp) _, below_set HB3.out (by omega), Kd.R_far (p := ⟨w.heap.size + 1, 33, none⟩) ho (fun _ hk => hk) _⟩)⟩⟩
    | true =>
      cases gk with
      | zero => rcases HN.out with ⟨_, h⟩ | ⟨h, _⟩ <;> simp [netRun] at h
      | succ m =>
        obtain ⟨⟨P1, Q1, T1, b1⟩, hrow, hrest⟩ : ∃ t, netRow k l0 0 P' Q' T' false = some t ∧ (if t.2.2.2 = true then netRun k l0 m t.1 t.2.1 t.2.2.1 else some (t.1, t.2.1, t.2.2.1)) = some (Pf, Qf, Tf) := by
          rcases HN.out with ⟨_, h⟩ | ⟨h, _⟩
          · exact Option.bind_eq_some_iff.mp h
          · cases h
        have HRow := Aside0.mk hrow
        have HRest := Aside0.mk hrest
        clear hrow hrest HN
        go_wp2
        go_loopg [4, 21] l0.length (fun kq v4 v21 w' => ∃ (j : Nat) (b : Bool) (P2 : List Bool) (Q2 : List S25) (T2 : List Bool), v21 = .int .i64 j ∧ v4 = .bool b ∧ Aside0 (kq + j = l0.length) ∧ Aside0 (netRow k (l0.drop j) j P2 Q2 T2 b = some (P1, Q1, T1, b1)) ∧ Aside0 (OnWay w w' (w.heap.size + 1) w.heap.size l0.length P2 Q2 T2))
        case atStart => exact ⟨0, false, P', Q', T', rfl, rfl, ⟨rfl⟩, HRow, HO⟩
        case round =>
          clear HRow HO HB
          obtain ⟨j, b, P2, Q2, T2, rfl, rfl, HJ, HRow, HO⟩ := hrel
          cases gk with
          | zero =>
            have c1 : ¬ j < l0.length := by have := HJ.out; omega
            have c1n : decide (j < l0.length) = false := decide_eq_false c1
            have c1b : decide ((j : Int) < (l0.length : Int)) = false := decide_eq_false (by omega)
            have H := HRow.out
            rw [List.drop_of_length_le (by omega)] at H
            simp only [netRow, Option.some.injEq, Prod.mk.injEq] at H
            obtain ⟨rfl, rfl, rfl, rfl⟩ := H
            clear c1
            go_wp2
            go_roundg m
            case measure => omega
            case rel =>
              cases b with
              | true => exact ⟨true, P2, Q2, T2, rfl, ⟨.inl ⟨rfl, by simpa using HRest.out⟩⟩, HO⟩
              | false => exact ⟨false, P2, Q2, T2, rfl, ⟨.inr ⟨rfl, by simpa using HRest.out⟩⟩, HO⟩
          | succ q =>
            have c1 : j < l0.length := by have := HJ.out; omega
            have c1n : decide (j < l0.length) = true := decide_eq_true c1
            have c1b : decide ((j : Int) < (l0.length : Int)) = true := decide_eq_true (by omega)
            obtain ⟨ad, e1, hx0, hx1, hx2, hx3, hx4⟩ := at_T28 HR0.out (j : Int) (by omega) (by omega)
            cases e1
            simp only [Int.toNat_natCast] at hx0 hx1 hx2 hx3 hx4
            have hd := rd_T28_drop l0 j c1
            generalize rd_T28 l0 (j : Int) = x at hx0 hx1 hx2 hx3 hx4 hd
            replace hx0 := (HO.out.be.cell (World.block_lt_of_cell? w _ hx0)).trans hx0
            replace hx1 := (HO.out.be.cell (World.block_lt_of_cell? w _ hx1)).trans hx1
            replace hx2 := (HO.out.be.cell (World.block_lt_of_cell? w _ hx2)).trans hx2
            replace hx3 := (HO.out.be.cell (World.block_lt_of_cell? w _ hx3)).trans hx3
            replace hx4 := (HO.out.be.cell (World.block_lt_of_cell? w _ hx4)).trans hx4
            obtain ⟨⟨P3, Q3, T3, b3⟩, hst, hrow⟩ : ∃ t, netStep k x j P2 Q2 T2 b = some t ∧ netRow k (l0.drop (j + 1)) (j + 1) t.1 t.2.1 t.2.2.1 t.2.2.2 = some (P1, Q1, T1, b1) := by
              have h := HRow.out
              rw [hd] at h
              exact Option.bind_eq_some_iff.mp h
            have HRow2 := Aside0.mk hrow
            have CJ := Aside0.mk c1
            have HD := Aside0.mk hd
            clear hrow HRow hd
            unfold netStep at hst
            split at hst
            case isFalse => cases hst
            rename_i hb
            obtain ⟨hb0, hb1, hb2, hb3⟩ := hb
            have hbg := HO.out.bg
            have hp0 : wr.cell? ⟨w.heap.size + 1, x.f0.toNat, none⟩ = some (.bool (P2.getD x.f0.toNat false)) := (blk_cell hbg _).trans (encN_p _ (by have := HO.out.pl; omega))
            have hp1 : wr.cell? ⟨w.heap.size + 1, x.f1.toNat, none⟩ = some (.bool (P2.getD x.f1.toNat false)) := (blk_cell hbg _).trans (encN_p _ (by have := HO.out.pl; omega))
            have hlt := blk_lt hbg
            have hne : w.heap.size + 1 ≠ wr.heap.size := by omega
            have hne2 : w.heap.size ≠ wr.heap.size := by omega
            have HST := Aside0.mk hst
            clear hst hbg
            generalize hm0 : P2.getD x.f0.toNat false = m0 at hp0
            generalize hm1 : P2.getD x.f1.toNat false = m1 at hp1
            have HM0 := Aside0.mk hm0
            have HM1 := Aside0.mk hm1
            clear hm0 hm1
            by_cases ce : m0 = m1
            · subst ce
              go_wp2
              go_quiet (fail)
              go_wp2
              go_roundg q
              case measure => omega
              case rel =>
                have h := HST.out
                rw [if_pos (HM0.out.trans HM1.out.symm)] at h
                simp only [Option.some.injEq, Prod.mk.injEq] at h
                obtain ⟨rfl, rfl, rfl, rfl⟩ := h
                exact ⟨j + 1, b, P2, Q2, T2, congrArg (Value.int .i64) (by have := CJ.out; have := HLen.out; first | rfl | (unfold wrap64; omega) | omega), rfl, ⟨by have := HJ.out; omega⟩, HRow2, ⟨HO.out.step (pw_below_drewN (below_alloc (Below.refl _ _) _) _)⟩⟩
            · have ceb : (m0 == m1) = false := by cases m0 <;> cases m1 <;> first | rfl | exact absurd rfl ce
              have hst := HST.out
              rw [if_neg (fun h => ce (HM0.out.symm.trans (h.trans HM1.out)))] at hst
              have hq8 := HO.out.ql
              have hp8 := HO.out.pl
              have hbg := HO.out.bg
              cases m0 with
              | true =>
                rw [if_pos HM0.out] at hst
                obtain ⟨⟨s1, s2, s3⟩, hs, hst⟩ := Option.bind_eq_some_iff.mp hst
                obtain ⟨⟨q1, q2, q3⟩, hq, hst⟩ := Option.bind_eq_some_iff.mp hst
                simp only [Option.some.injEq, Prod.mk.injEq] at hst
                obtain ⟨rfl, rfl, rfl, rfl⟩ := hst
                have HS := Aside0.mk hs
                have HQ := Aside0.mk hq
                clear hs hq hbg hq8 hp8
                clear HST
                go_wp2
                go_quiet (fail)
                revert nq
                intro n1
                go_wp2
                go_quiet (fail)
                revert nq
                intro n2
                go_upto_region 11 with (fail)
                clear hx0 hx1 hx2 hx3 hx4 hp0 hp1 c1n c1b ceb
                have HX : Aside0 ((((wr.alloc (.cells #[.int .i64 x.f0, .int .i64 x.f1, .int .i64 x.f2, .int .i64 x.f3, .int .i64 x.f4] 28)).drewN n1).drewN n2).heap[wr.heap.size]? = some (.cells #[.int .i64 x.f0, .int .i64 x.f1, .int .i64 x.f2, .int .i64 x.f3, .int .i64 x.f4] 28 (0, 0))) := ⟨blk_drewN (blk_drewN (blk_new wr _) _) _⟩
                have HO1 : Aside0 (OnWay w (((wr.alloc (.cells #[.int .i64 x.f0, .int .i64 x.f1, .int .i64 x.f2, .int .i64 x.f3, .int .i64 x.f4] 28)).drewN n1).drewN n2) (w.heap.size + 1) w.heap.size l0.length P2 Q2 T2) := ⟨HO.out.step (pw_below_drewN (pw_below_drewN (below_alloc (Below.refl _ _) _) _) _)⟩
                have HLT : Aside0 (w.heap.size + 1 < wr.heap.size) := ⟨hlt⟩
                have hnn : x.f1.toNat ≠ x.f0.toNat := fun e => ce (by rw [← HM0.out, ← HM1.out, e])
                clear HO hlt hne hne2
                generalize (((wr.alloc (.cells #[.int .i64 x.f0, .int .i64 x.f1, .int .i64 x.f2, .int .i64 x.f3, .int .i64 x.f4] 28)).drewN n1).drewN n2) = W1 at HX HO1 ⊢
                generalize wr.heap.size = gx at HX HLT ⊢
                have bx0 := blk_cell HX.out 0
                have bx1 := blk_cell HX.out 1
                have bx2 := blk_cell HX.out 2
                have bx3 := blk_cell HX.out 3
                have bx4 := blk_cell HX.out 4
                have hlx := blk_lt HX.out
                have hlg := blk_lt HO1.out.bg
                have hneg : w.heap.size + 1 ≠ gx := by have := HLT.out; omega
                have HQC : Aside0 (∀ W, OnWay w W (w.heap.size + 1) w.heap.size l0.length P2 Q2 T2 → W.cell? ⟨w.heap.size + 1, 8 + x.f0.toNat * 3, none⟩ = some (.int .i64 (Q2.getD x.f0.toNat ⟨0, 0, 0⟩).f0) ∧ W.cell? ⟨w.heap.size + 1, 8 + x.f0.toNat * 3 + 1, none⟩ = some (.int .i64 (Q2.getD x.f0.toNat ⟨0, 0, 0⟩).f1) ∧ W.cell? ⟨w.heap.size + 1, 8 + x.f0.toNat * 3 + 2, none⟩ = some (.int .i64 (Q2.getD x.f0.toNat ⟨0, 0, 0⟩).f2)) := ⟨fun W h => h.cellQ x.f0.toNat (by omega)⟩
                obtain ⟨hc0, hc1, hc2⟩ := HQC.out _ HO1.out
                have HQD : Aside0 (∀ q, (Q2.set x.f1.toNat q).getD x.f0.toNat ⟨0, 0, 0⟩ = Q2.getD x.f0.toNat ⟨0, 0, 0⟩) := ⟨fun q => getD_set_ne _ _ _ _ _ hnn⟩
                clear hnn ce
                generalize Q2.getD x.f0.toNat ⟨0, 0, 0⟩ = qq at hc0 hc1 hc2 HQ HQC HQD
                have hneg2 : w.heap.size ≠ w.heap.size + 1 := by omega
                go_region_held3 (fun w' => w'.cell? ⟨gx, 0, none⟩ = some (.int .i64 x.f0) ∧ w'.cell? ⟨gx, 1, none⟩ = some (.int .i64 x.f1) ∧ w'.cell? ⟨gx, 2, none⟩ = some (.int .i64 x.f2) ∧ w'.cell? ⟨gx, 3, none⟩ = some (.int .i64 x.f3) ∧ w'.cell? ⟨gx, 4, none⟩ = some (.int .i64 x.f4) ∧ w'.cell? ⟨w.heap.size + 1, 8 + x.f0.toNat * 3, none⟩ = some (.int .i64 qq.f0) ∧ w'.cell? ⟨w.heap.size + 1, 8 + x.f0.toNat * 3 + 1, none⟩ = some (.int .i64 qq.f1) ∧ w'.cell? ⟨w.heap.size + 1, 8 + x.f0.toNat * 3 + 2, none⟩ = some (.int .i64 qq.f2)) (first | (have h4_ := HO3.out.setQ (by omega) hneg2 x.f1.toNat (by omega) ⟨q1, q2, q3⟩; have hx4_ := blk_far (p := ⟨w.heap.size + 1, 8 + x.f1.toNat * 3 + 2, none⟩) (blk_far (p := ⟨w.heap.size + 1, 8 + x.f1.toNat * 3 + 1, none⟩) (blk_far (p := ⟨w.heap.size + 1, 8 + x.f1.toNat * 3, none⟩) HX3.out (Ne.symm hneg) (.int .i64 q1)) (Ne.symm hneg) (.int .i64 q2)) (Ne.symm hneg) (.int .i64 q3); obtain ⟨d0_, d1_, d2_⟩ := h4_.cellQ x.f0.toNat (by omega); rw [HQD.out] at d0_ d1_ d2_; exact ⟨blk_cell hx4_ 0, blk_cell hx4_ 1, blk_cell hx4_ 2, blk_cell hx4_ 3, blk_cell hx4_ 4, d0_, d1_, d2_⟩) | exact ⟨blk_cell HX3.out 0, blk_cell HX3.out 1, blk_cell HX3.out 2, blk_cell HX3.out 3, blk_cell HX3.out 4, (HQC.out _ HO3.out).1, (HQC.out _ HO3.out).2.1, (HQC.out _ HO3.out).2.2⟩ | exact ⟨blk_cell HX2.out 0, blk_cell HX2.out 1, blk_cell HX2.out 2, blk_cell HX2.out 3, blk_cell HX2.out 4, (HQC.out _ HO2.out).1, (HQC.out _ HO2.out).2.1, (HQC.out _ HO2.out).2.2⟩ | go_keep) ((first
                  | (go_at_call 45; refine (impl_Leg_shift.calls k x.f0 x.f1 x.f2 x.f3 x.f4 s1 s2 s3 _ (Tab.below HT.out (by repeat (first | exact HO1.out.be | apply below_drew1 | apply pw_below_drewN))) HS.out).mono ?_; rintro e w2 ⟨rfl, hb⟩; have HO2 := Aside0.mk ((HO1.out.step (below_drew1 (Below.refl _ _))).step hb); have HX2 := Aside0.mk (blk_below (blk_drew HX.out) hb); have hlx2 := blk_lt HX2.out; have hlg2 := blk_lt HO2.out.bg; clear hb)
                  | (go_at_call 49; refine (impl_Shift_plus.calls qq.f0 qq.f1 qq.f2 s1 s2 s3 1 q1 q2 q3 _ HQ.out).mono ?_; rintro e w3 ⟨rfl, hb⟩; have HO3 := Aside0.mk (HO2.out.step hb); have HX3 := Aside0.mk (blk_below HX2.out hb); have hlx3 := blk_lt HX3.out; obtain ⟨sc0, sc1, sc2⟩ := HO3.out.cellQ x.f1.toNat (by omega); have fz0 := blk_frozen HO3.out.bg (8 + x.f1.toNat * 3); have fz1 := blk_frozen HO3.out.bg (8 + x.f1.toNat * 3 + 1); have fz2 := blk_frozen HO3.out.bg (8 + x.f1.toNat * 3 + 2); clear hb)
                  | fail))
                have HO4 : Aside0 (OnWay w (((w3.setCell ⟨w.heap.size + 1, 8 + x.f1.toNat * 3, none⟩ (.int .i64 q1)).setCell ⟨w.heap.size + 1, 8 + x.f1.toNat * 3 + 1, none⟩ (.int .i64 q2)).setCell ⟨w.heap.size + 1, 8 + x.f1.toNat * 3 + 2, none⟩ (.int .i64 q3)) (w.heap.size + 1) w.heap.size l0.length P2 (Q2.set x.f1.toNat ⟨q1, q2, q3⟩) T2) := ⟨HO3.out.setQ (by omega) hneg2 x.f1.toNat (by omega) ⟨q1, q2, q3⟩⟩
                have HX4 : Aside0 ((((w3.setCell ⟨w.heap.size + 1, 8 + x.f1.toNat * 3, none⟩ (.int .i64 q1)).setCell ⟨w.heap.size + 1, 8 + x.f1.toNat * 3 + 1, none⟩ (.int .i64 q2)).setCell ⟨w.heap.size + 1, 8 + x.f1.toNat * 3 + 2, none⟩ (.int .i64 q3)).heap[gx]? = some (.cells #[.int .i64 x.f0, .int .i64 x.f1, .int .i64 x.f2, .int .i64 x.f3, .int .i64 x.f4] 28 (0, 0))) := ⟨blk_far (p := ⟨w.heap.size + 1, 8 + x.f1.toNat * 3 + 2, none⟩) (blk_far (p := ⟨w.heap.size + 1, 8 + x.f1.toNat * 3 + 1, none⟩) (blk_far (p := ⟨w.heap.size + 1, 8 + x.f1.toNat * 3, none⟩) HX3.out (Ne.symm hneg) (.int .i64 q1)) (Ne.symm hneg) (.int .i64 q2)) (Ne.symm hneg) (.int .i64 q3)⟩
                clear bx0 bx1 bx2 bx3 bx4 hc0 hc1 hc2 hlx hlg hlx2 hlg2 hlx3 sc0 sc1 sc2 fz0 fz1 fz2 HO1 HO2 HO3 HX HX2 HX3 HQC HQD
                generalize (((w3.setCell ⟨w.heap.size + 1, 8 + x.f1.toNat * 3, none⟩ (.int .i64 q1)).setCell ⟨w.heap.size + 1, 8 + x.f1.toNat * 3 + 1, none⟩ (.int .i64 q2)).setCell ⟨w.heap.size + 1, 8 + x.f1.toNat * 3 + 2, none⟩ (.int .i64 q3)) = W4 at HO4 HX4 ⊢
                have bx0 := blk_cell HX4.out 0
                have bx1 := blk_cell HX4.out 1
                have pc1 : W4.cell? ⟨w.heap.size + 1, x.f1.toNat, none⟩ = some (.bool (P2.getD x.f1.toNat false)) := (blk_cell HO4.out.bg _).trans (encN_p _ (by have := HO4.out.pl; omega))
                have fp1 := blk_frozen HO4.out.bg x.f1.toNat
                go_upto_region 12 with (fail)
                go_region_held3 (fun w' => w'.cell? ⟨gx, 1, none⟩ = some (.int .i64 x.f1)) (first | go_keep | exact blk_cell (blk_far (p := ⟨w.heap.size + 1, x.f1.toNat, none⟩) HX4.out (Ne.symm hneg) (.bool true)) 1) (fail)
                have HO5 : Aside0 (OnWay w (W4.setCell ⟨w.heap.size + 1, x.f1.toNat, none⟩ (.bool true)) (w.heap.size + 1) w.heap.size l0.length (P2.set x.f1.toNat true) (Q2.set x.f1.toNat ⟨q1, q2, q3⟩) T2) := ⟨HO4.out.setP (by omega) hneg2 x.f1.toNat (by omega)⟩
                clear bx0 bx1 pc1 fp1 HO4 HX4
                generalize (W4.setCell ⟨w.heap.size + 1, x.f1.toNat, none⟩ (.bool true)) = W5 at HO5 ⊢
                have tc := (blk_cell HO5.out.bg 32).trans (encN_t HO5.out.pl HO5.out.ql)
                have tj : W5.cell? ⟨w.heap.size, j, none⟩ = some (.bool (T2.getD j false)) := (blk_cell HO5.out.bt j).trans (by have := HO5.out.tl; have := CJ.out; simp [show j < T2.length by omega])
                have tf := blk_frozen HO5.out.bt j
                have cj := CJ.out
                have cjb : decide (j < l0.length) = true := decide_eq_true cj
                go_wp2
                go_roundg q
                case measure => omega
                case rel => exact ⟨j + 1, true, _, _, _, congrArg (Value.int .i64) (by have := CJ.out; have := HLen.out; first | rfl | (unfold wrap64; omega) | omega), rfl, ⟨by have := HJ.out; omega⟩, HRow2, ⟨(HO5.out.setT (Nat.le_refl _) hneg2 j).step (below_drew1 (Below.refl _ _))⟩⟩
              | false =>
                rw [if_neg (by rw [HM0.out]; decide)] at hst
                obtain ⟨⟨s1, s2, s3⟩, hs, hst⟩ := Option.bind_eq_some_iff.mp hst
                obtain ⟨⟨q1, q2, q3⟩, hq, hst⟩ := Option.bind_eq_some_iff.mp hst
                simp only [Option.some.injEq, Prod.mk.injEq] at hst
                obtain ⟨rfl, rfl, rfl, rfl⟩ := hst
                have HS := Aside0.mk hs
                have HQ := Aside0.mk hq
                clear hs hq hbg hq8 hp8
                clear HST
                go_wp2
                go_quiet (fail)
                revert nq
                intro n1
                go_wp2
                go_quiet (fail)
                revert nq
                intro n2
                go_upto_region 13 with (fail)
                clear hx0 hx1 hx2 hx3 hx4 hp0 hp1 c1n c1b ceb
                have HX : Aside0 ((((wr.alloc (.cells #[.int .i64 x.f0, .int .i64 x.f1, .int .i64 x.f2, .int .i64 x.f3, .int .i64 x.f4] 28)).drewN n1).drewN n2).heap[wr.heap.size]? = some (.cells #[.int .i64 x.f0, .int .i64 x.f1, .int .i64 x.f2, .int .i64 x.f3, .int .i64 x.f4] 28 (0, 0))) := ⟨blk_drewN (blk_drewN (blk_new wr _) _) _⟩
                have HO1 : Aside0 (OnWay w (((wr.alloc (.cells #[.int .i64 x.f0, .int .i64 x.f1, .int .i64 x.f2, .int .i64 x.f3, .int .i64 x.f4] 28)).drewN n1).drewN n2) (w.heap.size + 1) w.heap.size l0.length P2 Q2 T2) := ⟨HO.out.step (pw_below_drewN (pw_below_drewN (below_alloc (Below.refl _ _) _) _) _)⟩
                have HLT : Aside0 (w.heap.size + 1 < wr.heap.size) := ⟨hlt⟩
                have hnn : x.f0.toNat ≠ x.f1.toNat := fun e => ce (by rw [← HM0.out, ← HM1.out, e])
                clear HO hlt hne hne2
                generalize (((wr.alloc (.cells #[.int .i64 x.f0, .int .i64 x.f1, .int .i64 x.f2, .int .i64 x.f3, .int .i64 x.f4] 28)).drewN n1).drewN n2) = W1 at HX HO1 ⊢
                generalize wr.heap.size = gx at HX HLT ⊢
                have bx0 := blk_cell HX.out 0
                have bx1 := blk_cell HX.out 1
                have bx2 := blk_cell HX.out 2
                have bx3 := blk_cell HX.out 3
                have bx4 := blk_cell HX.out 4
                have hlx := blk_lt HX.out
                have hlg := blk_lt HO1.out.bg
                have hneg : w.heap.size + 1 ≠ gx := by have := HLT.out; omega
                have HQC : Aside0 (∀ W, OnWay w W (w.heap.size + 1) w.heap.size l0.length P2 Q2 T2 → W.cell? ⟨w.heap.size + 1, 8 + x.f1.toNat * 3, none⟩ = some (.int .i64 (Q2.getD x.f1.toNat ⟨0, 0, 0⟩).f0) ∧ W.cell? ⟨w.heap.size + 1, 8 + x.f1.toNat * 3 + 1, none⟩ = some (.int .i64 (Q2.getD x.f1.toNat ⟨0, 0, 0⟩).f1) ∧ W.cell? ⟨w.heap.size + 1, 8 + x.f1.toNat * 3 + 2, none⟩ = some (.int .i64 (Q2.getD x.f1.toNat ⟨0, 0, 0⟩).f2)) := ⟨fun W h => h.cellQ x.f1.toNat (by omega)⟩
                obtain ⟨hc0, hc1, hc2⟩ := HQC.out _ HO1.out
                have HQD : Aside0 (∀ q, (Q2.set x.f0.toNat q).getD x.f1.toNat ⟨0, 0, 0⟩ = Q2.getD x.f1.toNat ⟨0, 0, 0⟩) := ⟨fun q => getD_set_ne _ _ _ _ _ hnn⟩
                clear hnn ce
                generalize Q2.getD x.f1.toNat ⟨0, 0, 0⟩ = qq at hc0 hc1 hc2 HQ HQC HQD
                have hneg2 : w.heap.size ≠ w.heap.size + 1 := by omega
                go_region_held3 (fun w' => w'.cell? ⟨gx, 0, none⟩ = some (.int .i64 x.f0) ∧ w'.cell? ⟨gx, 1, none⟩ = some (.int .i64 x.f1) ∧ w'.cell? ⟨gx, 2, none⟩ = some (.int .i64 x.f2) ∧ w'.cell? ⟨gx, 3, none⟩ = some (.int .i64 x.f3) ∧ w'.cell? ⟨gx, 4, none⟩ = some (.int .i64 x.f4) ∧ w'.cell? ⟨w.heap.size + 1, 8 + x.f1.toNat * 3, none⟩ = some (.int .i64 qq.f0) ∧ w'.cell? ⟨w.heap.size + 1, 8 + x.f1.toNat * 3 + 1, none⟩ = some (.int .i64 qq.f1) ∧ w'.cell? ⟨w.heap.size + 1, 8 + x.f1.toNat * 3 + 2, none⟩ = some (.int .i64 qq.f2)) (first | (have h4_ := HO3.out.setQ (by omega) hneg2 x.f0.toNat (by omega) ⟨q1, q2, q3⟩; have hx4_ := blk_far (p := ⟨w.heap.size + 1, 8 + x.f0.toNat * 3 + 2, none⟩) (blk_far (p := ⟨w.heap.size + 1, 8 + x.f0.toNat * 3 + 1, none⟩) (blk_far (p := ⟨w.heap.size + 1, 8 + x.f0.toNat * 3, none⟩) HX3.out (Ne.symm hneg) (.int .i64 q1)) (Ne.symm hneg) (.int .i64 q2)) (Ne.symm hneg) (.int .i64 q3); obtain ⟨d0_, d1_, d2_⟩ := h4_.cellQ x.f1.toNat (by omega); rw [HQD.out] at d0_ d1_ d2_; exact ⟨blk_cell hx4_ 0, blk_cell hx4_ 1, blk_cell hx4_ 2, blk_cell hx4_ 3, blk_cell hx4_ 4, d0_, d1_, d2_⟩) | exact ⟨blk_cell HX3.out 0, blk_cell HX3.out 1, blk_cell HX3.out 2, blk_cell HX3.out 3, blk_cell HX3.out 4, (HQC.out _ HO3.out).1, (HQC.out _ HO3.out).2.1, (HQC.out _ HO3.out).2.2⟩ | exact ⟨blk_cell HX2.out 0, blk_cell HX2.out 1, blk_cell HX2.out 2, blk_cell HX2.out 3, blk_cell HX2.out 4, (HQC.out _ HO2.out).1, (HQC.out _ HO2.out).2.1, (HQC.out _ HO2.out).2.2⟩ | go_keep) ((first
                  | (go_at_call 45; refine (impl_Leg_shift.calls k x.f0 x.f1 x.f2 x.f3 x.f4 s1 s2 s3 _ (Tab.below HT.out (by repeat (first | exact HO1.out.be | apply below_drew1 | apply pw_below_drewN))) HS.out).mono ?_; rintro e w2 ⟨rfl, hb⟩; have HO2 := Aside0.mk ((HO1.out.step (below_drew1 (Below.refl _ _))).step hb); have HX2 := Aside0.mk (blk_below (blk_drew HX.out) hb); have hlx2 := blk_lt HX2.out; have hlg2 := blk_lt HO2.out.bg; clear hb)
                  | (go_at_call 49; refine (impl_Shift_plus.calls qq.f0 qq.f1 qq.f2 s1 s2 s3 (-1) q1 q2 q3 _ HQ.out).mono ?_; rintro e w3 ⟨rfl, hb⟩; have HO3 := Aside0.mk (HO2.out.step hb); have HX3 := Aside0.mk (blk_below HX2.out hb); have hlx3 := blk_lt HX3.out; obtain ⟨sc0, sc1, sc2⟩ := HO3.out.cellQ x.f0.toNat (by omega); have fz0 := blk_frozen HO3.out.bg (8 + x.f0.toNat * 3); have fz1 := blk_frozen HO3.out.bg (8 + x.f0.toNat * 3 + 1); have fz2 := blk_frozen HO3.out.bg (8 + x.f0.toNat * 3 + 2); clear hb)
                  | fail))
                have HO4 : Aside0 (OnWay w (((w3.setCell ⟨w.heap.size + 1, 8 + x.f0.toNat * 3, none⟩ (.int .i64 q1)).setCell ⟨w.heap.size + 1, 8 + x.f0.toNat * 3 + 1, none⟩ (.int .i64 q2)).setCell ⟨w.heap.size + 1, 8 + x.f0.toNat * 3 + 2, none⟩ (.int .i64 q3)) (w.heap.size + 1) w.heap.size l0.length P2 (Q2.set x.f0.toNat ⟨q1, q2, q3⟩) T2) := ⟨HO3.out.setQ (by omega) hneg2 x.f0.toNat (by omega) ⟨q1, q2, q3⟩⟩
                have HX4 : Aside0 ((((w3.setCell ⟨w.heap.size + 1, 8 + x.f0.toNat * 3, none⟩ (.int .i64 q1)).setCell ⟨w.heap.size + 1, 8 + x.f0.toNat * 3 + 1, none⟩ (.int .i64 q2)).setCell ⟨w.heap.size + 1, 8 + x.f0.toNat * 3 + 2, none⟩ (.int .i64 q3)).heap[gx]? = some (.cells #[.int .i64 x.f0, .int .i64 x.f1, .int .i64 x.f2, .int .i64 x.f3, .int .i64 x.f4] 28 (0, 0))) := ⟨blk_far (p := ⟨w.heap.size + 1, 8 + x.f0.toNat * 3 + 2, none⟩) (blk_far (p := ⟨w.heap.size + 1, 8 + x.f0.toNat * 3 + 1, none⟩) (blk_far (p := ⟨w.heap.size + 1, 8 + x.f0.toNat * 3, none⟩) HX3.out (Ne.symm hneg) (.int .i64 q1)) (Ne.symm hneg) (.int .i64 q2)) (Ne.symm hneg) (.int .i64 q3)⟩
                clear bx0 bx1 bx2 bx3 bx4 hc0 hc1 hc2 hlx hlg hlx2 hlg2 hlx3 sc0 sc1 sc2 fz0 fz1 fz2 HO1 HO2 HO3 HX HX2 HX3 HQC HQD
                generalize (((w3.setCell ⟨w.heap.size + 1, 8 + x.f0.toNat * 3, none⟩ (.int .i64 q1)).setCell ⟨w.heap.size + 1, 8 + x.f0.toNat * 3 + 1, none⟩ (.int .i64 q2)).setCell ⟨w.heap.size + 1, 8 + x.f0.toNat * 3 + 2, none⟩ (.int .i64 q3)) = W4 at HO4 HX4 ⊢
                have bx0 := blk_cell HX4.out 0
                have bx1 := blk_cell HX4.out 1
                have pc1 : W4.cell? ⟨w.heap.size + 1, x.f0.toNat, none⟩ = some (.bool (P2.getD x.f0.toNat false)) := (blk_cell HO4.out.bg _).trans (encN_p _ (by have := HO4.out.pl; omega))
                have fp1 := blk_frozen HO4.out.bg x.f0.toNat
                go_upto_region 14 with (fail)
                go_region_held3 (fun w' => w'.cell? ⟨gx, 0, none⟩ = some (.int .i64 x.f0)) (first | go_keep | exact blk_cell (blk_far (p := ⟨w.heap.size + 1, x.f0.toNat, none⟩) HX4.out (Ne.symm hneg) (.bool true)) 0) (fail)
                have HO5 : Aside0 (OnWay w (W4.setCell ⟨w.heap.size + 1, x.f0.toNat, none⟩ (.bool true)) (w.heap.size + 1) w.heap.size l0.length (P2.set x.f0.toNat true) (Q2.set x.f0.toNat ⟨q1, q2, q3⟩) T2) := ⟨HO4.out.setP (by omega) hneg2 x.f0.toNat (by omega)⟩
                clear bx0 bx1 pc1 fp1 HO4 HX4
                generalize (W4.setCell ⟨w.heap.size + 1, x.f0.toNat, none⟩ (.bool true)) = W5 at HO5 ⊢
                have tc := (blk_cell HO5.out.bg 32).trans (encN_t HO5.out.pl HO5.out.ql)
                have tj : W5.cell? ⟨w.heap.size, j, none⟩ = some (.bool (T2.getD j false)) := (blk_cell HO5.out.bt j).trans (by have := HO5.out.tl; have := CJ.out; simp [show j < T2.length by omega])
                have tf := blk_frozen HO5.out.bt j
                have cj := CJ.out
                have cjb : decide (j < l0.length) = true := decide_eq_true cj
                go_wp2
                go_roundg q
                case measure => omega
                case rel => exact ⟨j + 1, true, _, _, _, congrArg (Value.int .i64) (by have := CJ.out; have := HLen.out; first | rfl | (unfold wrap64; omega) | omega), rfl, ⟨by have := HJ.out; omega⟩, HRow2, ⟨(HO5.out.setT (Nat.le_refl _) hneg2 j).step (below_drew1 (Below.refl _ _))⟩⟩


end Go.Proofs.YtjcmolbaanedaaaDoor.XFnExactErrorOf
