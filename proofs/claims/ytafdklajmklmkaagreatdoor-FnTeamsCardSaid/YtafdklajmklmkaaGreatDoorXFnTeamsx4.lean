/- Contracts of the functions that the law FnTeams comes to: each is told as a plain function of its arguments, and the machine's call does what that function says; no condition. Written by programs (print.py, xprint.py); Lean checks it. -/
import Derived.Test.YtafdklajmklmkaaGreatDoorXFnTeamsx0
import Derived.Test.YtafdklajmklmkaaGreatDoorXFnTeamsx2
import Derived.Test.YtafdklajmklmkaaGreatDoorXFnTeamsx3
namespace Go.Proofs.YtafdklajmklmkaaGreatDoor.XFnTeams
open Go.RowKit Go.Proofs.YtafdklajmklmkaaGreatDoorW.PrintWords Go.Proofs.YtafdklajmklmkaaGreatDoorW.PrintLast Go.Proofs.YtafdklajmklmkaaGreatDoorW.PrintMore
attribute [local go_sem] max2_int min2_int max_two min_two max_three min_three max_four min_four   -- for this text's walks alone
set_option linter.unusedVariables false
set_option linter.unusedSimpArgs false

/-! ### spec_l1Cur_skills: function 54 (by hand) -/
def spec_l1Cur_skills.f (s0_0 : List Int) (s0_1 : Int) (s0_2 : Int) : Option (Int × Int × Int) := (spec_l1Cur_pick.f s0_0 s0_1 s0_2 24).bind fun b => if 0 ≤ b.1 ∧ b.1 < 24 then spec_l1Cur_among.f s0_0 b.2.1 b.2.2 (([0, 1, 3, 4, 7, 8, 15, -1, 16] : List Int).take (7 + Int.tdiv b.1 11).toNat) else none
set_option maxHeartbeats 8000000 in
set_option maxRecDepth 100000 in
theorem spec_l1Cur_skills.calls (g : Nat) (s0_0 : List Int) (s0_1 : Int) (s0_2 : Int) (r1 : Int) (r2 : Int) (r3 : Int) (w0 w : World) (hI : IsS68 w0 w g s0_0 s0_1 s0_2) (hB : Below w0.heap.size w0 w) (h : spec_l1Cur_skills.f s0_0 s0_1 s0_2 = some (r1, r2, r3)) :
  Calls Tryz.prog 54 #[.pointer (some ⟨g, 0, none⟩)] w fun e w' => e = .returned (.int .i64 r1) ∧ IsS68 w0 w' g s0_0 r2 r3 ∧ Below w0.heap.size w0 w' ∧ KeepBut w w' g none := by
 obtain ⟨⟨t1, t2, t3⟩, A30, H⟩ := Option.bind_eq_some_iff.mp h
 clear h; have A3 := Aside0.mk A30
 split at H
 case isFalse => cases H
 rename_i hb24
 have hb24 : 0 ≤ t1 ∧ t1 < 24 := hb24
 have htd : Int.tdiv t1 11 = t1 / 11 := Int.tdiv_eq_ediv_of_nonneg hb24.1
 have hw1 : wrap64 (t1.tdiv 11) = t1 / 11 := by rw [htd]; unfold wrap64; omega
 have hw2 : wrap64 (7 + wrap64 (t1.tdiv 11)) = 7 + t1 / 11 := by rw [hw1]; unfold wrap64; omega
 have pa : (0 ≤ 7 + t1 / 11) = True := eq_true (by omega)
 have PB := Aside0.mk (show 7 + t1 / 11 ≤ 9 by omega)
 have HA : Aside0 (spec_l1Cur_among.f s0_0 t2 t3 (([(0), (1), (3), (4), (7), (8), (15), (-1), (16)] : List Int).take (7 + t1 / 11).toNat) = some (r1, r2, r3)) := ⟨by have h := H; rw [htd] at h; exact h⟩
 clear htd hb24 A30 H; have HI0 := Aside0.mk hI
 have HK := Aside0.mk (KeepBut.refl w g none)
 have HB := Aside0.mk hB; clear hI hB
 go_enter Tryz.func54, Tryz.ntmps54
 go_wp2_with (first | ((with_reducible refine gate_dst (N := 4) rfl ?_); refine Kd.R_lit (Kd.int .i64) _ 3 ?hg (N := 4) ?hd (xs := ([(0), (1), (3), (4), (7), (8), (15), (-1), (16)] : List Int)) (inner := [.int .i64 (0), .int .i64 (1), .int .i64 (3), .int .i64 (4), .int .i64 (7), .int .i64 (8), .int .i64 (15), .int .i64 (-1), .int .i64 (16)]) (ok := fun _ => True) (okp := fun _ => True) ?hr ?hp (fun _ hk => hk) trivial (Below.refl _ _) (Nat.le_refl _) (by simp) ?_; (case hd => rfl); (case hg => rfl); (case hr => first | (go_simp; done) | (go_simp; rfl)); (case hp => exact (Reps.one (show Kd.M (Kd.int .i64) _ _ _ (0) [.int .i64 (0)] from rfl) (Reps.one (show Kd.M (Kd.int .i64) _ _ _ (1) [.int .i64 (1)] from rfl) (Reps.one (show Kd.M (Kd.int .i64) _ _ _ (3) [.int .i64 (3)] from rfl) (Reps.one (show Kd.M (Kd.int .i64) _ _ _ (4) [.int .i64 (4)] from rfl) (Reps.one (show Kd.M (Kd.int .i64) _ _ _ (7) [.int .i64 (7)] from rfl) (Reps.one (show Kd.M (Kd.int .i64) _ _ _ (8) [.int .i64 (8)] from rfl) (Reps.one (show Kd.M (Kd.int .i64) _ _ _ (15) [.int .i64 (15)] from rfl) (Reps.one (show Kd.M (Kd.int .i64) _ _ _ (-1) [.int .i64 (-1)] from rfl) (Reps.one (show Kd.M (Kd.int .i64) _ _ _ (16) [.int .i64 (16)] from rfl) (Reps.none _ _))))))))))); intro v234 w8 ho9 hb hg_ hnew_; clear hg_ hnew_; have n0_ := Aside0.mk (Kd.R_lower ho9 (keep_size (w := w) (g := g) (row := none) z4_)); have n1_ := Aside0.mk (IsS68.below z3_ hb); have n3_ := Aside0.mk (KeepBut.trans z4_ (KeepBut.of_below hb g none) (.inl rfl)); have n4_ := Aside0.mk (below_step z9_ hb); clear HI0; clear HK; clear HB; have HO235 := n0_; have HI0 := n1_; have HK := n3_; have HB := n4_; clear n0_ n1_ n3_ n4_; clear hb ho9; obtain ⟨Ao10, co10, eo10⟩ := Kd.R_slice HO235.out; subst eo10; have hco := (Kd.R_reads' HO235.out).2.1; have hlen : (([(0), (1), (3), (4), (7), (8), (15), (-1), (16)] : List Int)).length = 9 := rfl; rw [hlen] at hco; have pb : (7 + t1 / 11 ≤ (co10 : Int)) = True := eq_true (by have := PB.out; omega); have HCO := Aside0.mk hco; clear hco hlen) | ((with_reducible refine gate_callee (f := 73) rfl ?_); refine goesL_ (some 6) rfl rfl Tryz.func73 (by kernel_rfl) rfl #[.pointer (some ⟨g, 0, none⟩), .int .i64 24] rfl (by (try simp only [List.map_toArray, List.map_cons, List.map_nil]); first | done | rfl) ?_; (with_reducible refine (spec_l1Cur_pick.calls g s0_0 s0_1 s0_2 24 t1 t2 t3 w0 _ ?side1 ?side2 A3.out).mono ?_); (case side1 => exact z3_); (case side2 => exact z9_); rintro e w9 ⟨rfl, hi, hb, hk⟩; refine ⟨_, rfl, ?_⟩; have n1_ := Aside0.mk (Kd.R_mono (Kd.R_keep (IsS68.apart (show IsS68 w0 _ g s0_0 s0_1 s0_2 from z3_) (kr_ HO235) (by decide)) hk (fun _ h => h.2)) (fun _ h => h.1)); have n0_ := Aside0.mk (KeepBut.trans z4_ hk (.inl rfl)); have n3_ := Aside0.mk (hb); have n4_ := Aside0.mk (hi); clear HO235 HK HB HI0; have HO235 := n1_; have HK := n0_; have HB := n3_; have HI0 := n4_; clear n0_ n1_ n3_ n4_ hb hk hi) | (go_at_call 74; have hL_ : (([(0), (1), (3), (4), (7), (8), (15), (-1), (16)] : List Int).take (7 + t1 / 11).toNat).length = (7 + t1 / 11).toNat := (by have := PB.out; rw [List.length_take]; show min _ 9 = _; omega); have hc_ := Kd.C_take (Kd.R_reads' HO235.out).2.2 (show (7 + t1 / 11).toNat ≤ ([(0), (1), (3), (4), (7), (8), (15), (-1), (16)] : List Int).length by have := PB.out; show _ ≤ 9; omega); have hcall := spec_l1Cur_among.calls g s0_0 t2 t3 Ao10 co10 (([(0), (1), (3), (4), (7), (8), (15), (-1), (16)] : List Int).take (7 + t1 / 11).toNat) r1 r2 r3 w0 _ HI0.out HB.out hc_ (by rw [hL_]; have := PB.out; have := HCO.out; omega) (fun ad ha _ => far_slice (IsS68.own_ne HI0.out HO235.out (by decide)) ad ha (by decide)) HA.out; rw [hL_] at hcall; refine hcall.mono ?_; clear hcall hc_ hL_; rintro e w11 ⟨rfl, hi, hb, hk⟩; have n0_ := Aside0.mk (KeepBut.trans z4_ hk (.inl rfl)); have n3_ := Aside0.mk hb; have n4_ := Aside0.mk hi; clear HO235 HK HB HI0; have HK := n0_; have HB := n3_; have HI0 := n4_; clear n0_ n3_ n4_ hb hk hi))
 go_ret
 exact ⟨rfl, HI0.out, HB.out, HK.out⟩


/-! ### spec_DrawWithSkills_in: function 29 -/
def spec_DrawWithSkills_in.f (k : Nat) (s0_0 : List Int) (s0_1 : Int) (s0_2 : Int) : Option ((List (S41)) × Int × Int × Int) := (spec_l1Cur_people.f k s0_0 s0_1 s0_2).bind fun bt193 => ((spec_l1Cur_skills.f s0_0 bt193.2.1 bt193.2.2).bind fun bt198 => (some (bt193.1, bt198.1, bt198.2.1, bt198.2.2)))
set_option maxHeartbeats 8000000 in
set_option maxRecDepth 100000 in
theorem spec_DrawWithSkills_in.calls (k : Nat) (A0 : Option Addr) (c0 : Nat) (l0 : List Int) (r1 : List (S41)) (r2 : Int) (r3 : Int) (r4 : Int) (w : World) (hr0 : Kd.C (Kd.int .u8) w A0 l0.length l0) (hc0 : l0.length ≤ c0) (h : spec_DrawWithSkills_in.f k l0 0 0 = some (r1, r2, r3, r4)) :
  Calls Tryz.prog 29 #[.slice A0 l0.length c0] w fun e w' => ∃ v0_ : Value, e = .returned (.tuple #[v0_, .int .i64 r2]) ∧ Kd.R k41 41 w' (w.alloc (.cells #[.slice A0 l0.length c0, .int .i64 0, .int .u64 0] 68)).heap.size (fun _ => True) v0_ r1 ∧ IsS68 w w' w.heap.size l0 r3 r4 ∧ Below w.heap.size w w' ∧ KeepBut (w.alloc (.cells #[.slice A0 l0.length c0, .int .i64 0, .int .u64 0] 68)) w' w.heap.size none := by
 have hI : IsS68 w (w.alloc (.cells #[.slice A0 l0.length c0, .int .i64 0, .int .u64 0] 68)) w.heap.size l0 0 0 := ⟨A0, c0, heap_alloc_new w _, Nat.le_refl _, hr0⟩
 have hB : Below w.heap.size w (w.alloc (.cells #[.slice A0 l0.length c0, .int .i64 0, .int .u64 0] 68)) := below_alloc (Below.refl _ _) _
 clear hr0; have HI0 := Aside0.mk hI
 have HK := Aside0.mk (KeepBut.refl (w.alloc (.cells #[.slice A0 l0.length c0, .int .i64 0, .int .u64 0] 68)) w.heap.size none)
 have HL := Aside0.mk hB.size; clear hI; have HW0 := Aside0.mk hB.size; have HB := Aside0.mk hB; clear hB
 have H : ((spec_l1Cur_people.f k l0 0 0).bind fun bt193 => ((spec_l1Cur_skills.f l0 bt193.2.1 bt193.2.2).bind fun bt198 => (some (bt193.1, bt198.1, bt198.2.1, bt198.2.2)))) = some (r1, r2, r3, r4) := h
 clear h; replace H := Option.bind_eq_some_iff.mp H; obtain ⟨⟨t193, t196, t197⟩, A20, H⟩ := H
 replace H : ((spec_l1Cur_skills.f l0 t196 t197).bind fun bt198 => (some (t193, bt198.1, bt198.2.1, bt198.2.2))) = some (r1, r2, r3, r4) := H
 have A2 := Aside0.mk A20; clear A20; replace H := Option.bind_eq_some_iff.mp H; obtain ⟨⟨t198, t199, t200⟩, A30, H⟩ := H
 replace H : (some (t193, t198, t199, t200)) = some (r1, r2, r3, r4) := H
 have A3 := Aside0.mk A30; clear A30
 simp only [Option.some.injEq, Prod.mk.injEq] at H
 obtain ⟨rfl, rfl, rfl, rfl⟩ := H
 go_enter Tryz.func29, Tryz.ntmps29
 go_wp2_with (first | ((with_reducible refine gate_callee (f := 52) rfl ?_); refine goesL_ (some 10) rfl rfl Tryz.func52 (by kernel_rfl) rfl #[.pointer (some ⟨w.heap.size, 0, none⟩)] rfl gl_ ?_; (with_reducible refine (spec_l1Cur_people.calls k w.heap.size l0 0 0 t193 t196 t197 w _ ?side1 ?side2 A2.out).mono ?_); (case side1 => exact z3_); (case side2 => exact z9_); rintro e w4 ⟨v194, rfl, ho0, hi, hb, hk⟩; refine ⟨_, rfl, ?_⟩; have n0_ := Aside0.mk (Kd.R_lower ho0 (keep_size (w := (w.alloc (.cells #[.slice A0 l0.length c0, .int .i64 0, .int .u64 0] 68))) (g := w.heap.size) (row := none) z4_)); have n1_ := Aside0.mk (KeepBut.trans z4_ hk (.inl rfl)); have n2_ := Aside0.mk (hb); have n3_ := Aside0.mk (hi); clear HK; clear HB; clear HI0; have HO195 := n0_; have HK := n1_; have HB := n2_; have HI0 := n3_; clear n0_ n1_ n2_ n3_; (try clear hb); (try clear hk); (try clear hi); (try clear ho0)) | ((with_reducible refine gate_callee (f := 54) rfl ?_); refine goesL_ (some 13) rfl rfl Tryz.func54 (by kernel_rfl) rfl #[.pointer (some ⟨w.heap.size, 0, none⟩)] rfl gl_ ?_; (with_reducible refine (spec_l1Cur_skills.calls w.heap.size l0 t196 t197 t198 t199 t200 w _ ?side1 ?side2 A3.out).mono ?_); (case side1 => exact z3_); (case side2 => exact z9_); rintro e w5 ⟨rfl, hi, hb, hk⟩; refine ⟨_, rfl, ?_⟩; have n0_ := Aside0.mk (Kd.R_mono (Kd.R_keep (IsS68.apart (show IsS68 w _ w.heap.size l0 t196 t197 from z3_) (kr_ HO195) (by decide)) hk (fun _ h => h.2)) (fun _ h => h.1)); have n1_ := Aside0.mk (KeepBut.trans z4_ hk (.inl rfl)); have n2_ := Aside0.mk (hb); have n3_ := Aside0.mk (hi); clear HO195; clear HK; clear HB; clear HI0; have HO195 := n0_; have HK := n1_; have HB := n2_; have HI0 := n3_; clear n0_ n1_ n2_ n3_; (try clear hb); (try clear hk); (try clear hi)))
 go_ret2
 exact ⟨_, z6_, by (with_reducible repeat (first | apply Kd.R_alloc | apply Kd.R_drewN | apply Kd.R_drew)); exact HO195.out, z3_, z9_, z4_⟩

/-! ### spec_DrawWithSkills: function 29 -/
def spec_DrawWithSkills.f (k : Nat) (l0 : List Int) : Option ((List (S41)) × Int) := (spec_DrawWithSkills_in.f k l0 0 0).bind fun t => some (t.1, t.2.1)
theorem spec_DrawWithSkills.calls (k : Nat) (A0 : Option Addr) (c0 : Nat) (l0 : List Int) (r1 : List (S41)) (r2 : Int) (w : World) (hr0 : Kd.C (Kd.int .u8) w A0 l0.length l0) (hc0 : l0.length ≤ c0) (h : spec_DrawWithSkills.f k l0 = some (r1, r2)) :
  Calls Tryz.prog 29 #[.slice A0 l0.length c0] w fun e w' => ∃ v0_ : Value, e = .returned (.tuple #[v0_, .int .i64 r2]) ∧ Kd.R k41 41 w' w.heap.size (fun _ => True) v0_ r1 ∧ Below w.heap.size w w' := by
 unfold spec_DrawWithSkills.f at h
 obtain ⟨⟨r1, r2, r3, r4⟩, h1, h2⟩ := Option.bind_eq_some_iff.mp h
 simp only [Option.some.injEq, Prod.mk.injEq] at h2
 obtain ⟨rfl, rfl⟩ := h2
 refine (spec_DrawWithSkills_in.calls k A0 c0 l0 r1 r2 r3 r4 w hr0 hc0 h1).mono ?_
 rintro e w' ⟨v0_, he_, h1_, _, hb_, _⟩
 exact ⟨v0_, he_, Kd.R_lower h1_ (below_size (below_alloc (Below.refl _ w) _)), hb_⟩

/-! ### spec_DrawSmallestTeam: function 6 -/
def spec_DrawSmallestTeam.f (k : Nat) (l0 : List Int) : Option ((List (S41)) × Int) := (spec_DrawWithSkills.f k l0).bind fun bt201 => (some (bt201.1, bt201.2))
set_option maxHeartbeats 8000000 in
set_option maxRecDepth 100000 in
theorem spec_DrawSmallestTeam.calls (k : Nat) (A0 : Option Addr) (c0 : Nat) (l0 : List Int) (r1 : List (S41)) (r2 : Int) (w : World) (hr0 : Kd.C (Kd.int .u8) w A0 l0.length l0) (hc0 : l0.length ≤ c0) (h : spec_DrawSmallestTeam.f k l0 = some (r1, r2)) :
  Calls Tryz.prog 6 #[.slice A0 l0.length c0] w fun e w' => ∃ v0_ : Value, e = .returned (.tuple #[v0_, .int .i64 r2]) ∧ Kd.R k41 41 w' w.heap.size (fun _ => True) v0_ r1 ∧ Below w.heap.size w w' := by
 have HR0 := Aside0.mk hr0; have HC0 := Aside0.mk hc0; clear hr0 hc0
 have HB := Aside0.mk (Below.refl w.heap.size w)
 have H : ((spec_DrawWithSkills.f k l0).bind fun bt201 => (some (bt201.1, bt201.2))) = some (r1, r2) := h
 clear h; replace H := Option.bind_eq_some_iff.mp H; obtain ⟨⟨t201, t202⟩, A20, H⟩ := H
 replace H : (some (t201, t202)) = some (r1, r2) := H
 have A2 := Aside0.mk A20; clear A20
 simp only [Option.some.injEq, Prod.mk.injEq] at H
 obtain ⟨rfl, rfl⟩ := H
 go_enter Tryz.func6, Tryz.ntmps6
 go_wp2_with (first | ((with_reducible refine gate_callee (f := 29) rfl ?_); refine goesL_ (some 5) rfl rfl Tryz.func29 (by kernel_rfl) rfl #[.slice A0 l0.length c0] rfl gl_ ?_; (with_reducible refine (spec_DrawWithSkills.calls k _ _ l0 t201 t202 _ ?side1 ?side2 A2.out).mono ?_); (case side1 => exact z11_); (case side2 => exact HC0.out); rintro e w3 ⟨v203, rfl, ho0, hb⟩; refine ⟨_, rfl, ?_⟩; have n0_ := Aside0.mk (Kd.R_lower ho0 (below_size bx_)); have n1_ := Aside0.mk (below_step bx_ hb); clear HB; have HO204 := n0_; have HB := n1_; clear n0_ n1_; (try clear hb); (try clear hk); (try clear hi); (try clear ho0)))
 go_ret2
 exact ⟨_, z6_, by (with_reducible repeat (first | apply Kd.R_alloc | apply Kd.R_drewN | apply Kd.R_drew)); exact HO204.out, z5_⟩

/-! ### impl_within: function 57 -/
def impl_within.f (a0 : Int) (a1 : Int) (a2 : Int) : Option (Bool) := if a0 ≥ a1 then (some (decide (a0 ≤ a2))) else (some false)
set_option maxHeartbeats 8000000 in
set_option maxRecDepth 100000 in
theorem impl_within.calls (a0 : Int) (a1 : Int) (a2 : Int) (r : Bool) (w : World) (h : impl_within.f a0 a1 a2 = some r) :
  Calls Tryz.prog 57 #[.int .i64 a0, .int .i64 a1, .int .i64 a2] w fun e w' => e = .returned (.bool r) ∧ Drawn0 w w' := by
 have H : (if a0 ≥ a1 then (some (decide (a0 ≤ a2))) else (some false)) = some r := h
 clear h
 by_cases c4 : a0 ≥ a1
 ·rw [if_pos c4] at H
  have c4b0 : decide (a1 ≤ a0) = true := decide_eq_true c4
  clear c4
  obtain rfl := Option.some.inj H
  go_enter Tryz.func57, Tryz.ntmps57
  go_wp2
  go_ret
  exact ⟨z2_, z7_⟩
 ·rw [if_neg c4] at H
  have c4b0 : decide (a1 ≤ a0) = false := decide_eq_false c4
  clear c4
  obtain rfl := Option.some.inj H
  go_enter Tryz.func57, Tryz.ntmps57
  go_wp2
  go_ret
  exact ⟨z2_, z7_⟩

/-! ### impl_areSkills: function 34 -/
def impl_areSkills.f (a0 : Int) : Option (Bool) := (impl_within.f a0 0 15).bind fun t205 => (some t205)
set_option maxHeartbeats 8000000 in
set_option maxRecDepth 100000 in
theorem impl_areSkills.calls (a0 : Int) (r : Bool) (w : World) (h : impl_areSkills.f a0 = some r) :
  Calls Tryz.prog 34 #[.int .i64 a0] w fun e w' => e = .returned (.bool r) ∧ Drawn0 w w' := by
 have H : ((impl_within.f a0 0 15).bind fun t205 => (some t205)) = some r := h
 clear h; replace H := Option.bind_eq_some_iff.mp H; obtain ⟨t205, A20, H⟩ := H
 replace H : (some t205) = some r := H
 have A2 := Aside0.mk A20; clear A20
 obtain rfl := Option.some.inj H
 go_enter Tryz.func34, Tryz.ntmps34
 go_wp2_with (first | ((with_reducible refine gate_callee (f := 57) rfl ?_); refine goesL_ (some 4) rfl rfl Tryz.func57 (by kernel_rfl) rfl #[.int .i64 a0, .int .i64 0, .int .i64 15] rfl gl_ ?_; (with_reducible refine (impl_within.calls a0 0 15 t205 _ A2.out).mono ?_); rintro e w' ⟨rfl, ⟨nd, rfl⟩⟩; refine ⟨_, rfl, ?_⟩))
 go_ret
 exact ⟨z2_, z7_⟩

/-! ### impl_isId: function 55 -/
def impl_isId.f (a0 : Int) : Option (Bool) := (impl_within.f a0 1 99).bind fun t206 => (some t206)
set_option maxHeartbeats 8000000 in
set_option maxRecDepth 100000 in
theorem impl_isId.calls (a0 : Int) (r : Bool) (w : World) (h : impl_isId.f a0 = some r) :
  Calls Tryz.prog 55 #[.int .i64 a0] w fun e w' => e = .returned (.bool r) ∧ Drawn0 w w' := by
 have H : ((impl_within.f a0 1 99).bind fun t206 => (some t206)) = some r := h
 clear h; replace H := Option.bind_eq_some_iff.mp H; obtain ⟨t206, A20, H⟩ := H
 replace H : (some t206) = some r := H
 have A2 := Aside0.mk A20; clear A20
 obtain rfl := Option.some.inj H
 go_enter Tryz.func55, Tryz.ntmps55
 go_wp2_with (first | ((with_reducible refine gate_callee (f := 57) rfl ?_); refine goesL_ (some 4) rfl rfl Tryz.func57 (by kernel_rfl) rfl #[.int .i64 a0, .int .i64 1, .int .i64 99] rfl gl_ ?_; (with_reducible refine (impl_within.calls a0 1 99 t206 _ A2.out).mono ?_); rintro e w' ⟨rfl, ⟨nd, rfl⟩⟩; refine ⟨_, rfl, ?_⟩))
 go_ret
 exact ⟨z2_, z7_⟩

/-! ### strings_Trim: function 77 (by hand, by the shelf's contract): at a set of ASCII bytes -/
def strings_Trim.f (a0 : ByteArray) (a1 : ByteArray) : Option (ByteArray) := if a0.size ≤ 9223372036854775807 ∧ a1.size ≤ 1000 ∧ a1.data.toList.all (fun b => decide (b.toNat < 128)) = true then some (⟨(Lib.trimS a0.data.toList a1.data.toList).toArray⟩ : ByteArray) else none
theorem strings_Trim.calls (a0 : ByteArray) (a1 : ByteArray) (r : ByteArray) (w : World) (h : strings_Trim.f a0 a1 = some r) :
  Calls Tryz.prog 77 #[.string a0, .string a1] w fun e w' => e = .returned (.string r) ∧ Below w.heap.size w w' := by
 unfold strings_Trim.f at h
 split at h
 ·rename_i hb
  obtain rfl := Option.some.inj h
  exact Tryz.strings_Trim_laid a0 a1 w hb.1 (by have := hb.2.1; omega) (fun j b hj => of_decide_eq_true (List.all_eq_true.mp hb.2.2 b (List.mem_of_getElem? hj)))
 ·cases h


/-! ### impl_isWord: function 56 -/
def impl_isWord.f (a0 : ByteArray) : Option (Bool) := if (a0.size : Int) ≥ 1 then (if (a0.size : Int) ≤ 10 then ((strings_Trim.f a0 (⟨#[97, 98, 99, 100, 101, 102, 103, 104, 105, 106, 107, 108, 109, 110, 111, 112, 113, 114, 115, 116, 117, 118, 119, 120, 121, 122]⟩ : ByteArray)).bind fun t207 => (some (t207.toList == ([] : List UInt8)))) else (some false)) else (some false)
set_option maxHeartbeats 8000000 in
set_option maxRecDepth 100000 in
theorem impl_isWord.calls (a0 : ByteArray) (r : Bool) (w : World) (h : impl_isWord.f a0 = some r) :
  Calls Tryz.prog 56 #[.string a0] w fun e w' => e = .returned (.bool r) ∧ Below w.heap.size w w' := by
 have HB := Aside0.mk (Below.refl w.heap.size w)
 have H : (if (a0.size : Int) ≥ 1 then (if (a0.size : Int) ≤ 10 then ((strings_Trim.f a0 (⟨#[97, 98, 99, 100, 101, 102, 103, 104, 105, 106, 107, 108, 109, 110, 111, 112, 113, 114, 115, 116, 117, 118, 119, 120, 121, 122]⟩ : ByteArray)).bind fun t207 => (some (t207.toList == ([] : List UInt8)))) else (some false)) else (some false)) = some r := h
 clear h
 by_cases c2 : (a0.size : Int) ≥ 1
 ·rw [if_pos c2] at H
  have c2b0 : decide (1 ≤ (a0.size : Int)) = true := decide_eq_true c2
  have c2b1 : decide (1 ≤ a0.size) = true := decide_eq_true (by omega)
  clear c2
  by_cases c3 : (a0.size : Int) ≤ 10
  ·rw [if_pos c3] at H
   have c3b0 : decide ((a0.size : Int) ≤ 10) = true := decide_eq_true c3
   have c3b1 : decide (a0.size ≤ 10) = true := decide_eq_true (by omega)
   clear c3; replace H := Option.bind_eq_some_iff.mp H; obtain ⟨t207, A40, H⟩ := H
   replace H : (some (t207.toList == ([] : List UInt8))) = some r := H
   have A4 := Aside0.mk A40; clear A40
   obtain rfl := Option.some.inj H
   go_enter Tryz.func56, Tryz.ntmps56
   go_wp2_with (first | (go_at_call 77; (with_reducible refine (strings_Trim.calls a0 (⟨#[97, 98, 99, 100, 101, 102, 103, 104, 105, 106, 107, 108, 109, 110, 111, 112, 113, 114, 115, 116, 117, 118, 119, 120, 121, 122]⟩ : ByteArray) t207 _ A4.out).mono ?_); rintro e w5 ⟨rfl, hb⟩; have n0_ := Aside0.mk (below_step bx_ hb); clear HB; have HB := n0_; clear n0_; (try clear hb); (try clear hk); (try clear hi)))
   go_ret
   exact ⟨z6_, z5_⟩
  ·rw [if_neg c3] at H
   have c3b0 : decide ((a0.size : Int) ≤ 10) = false := decide_eq_false c3
   have c3b1 : decide (a0.size ≤ 10) = false := decide_eq_false (by omega)
   clear c3
   obtain rfl := Option.some.inj H
   go_enter Tryz.func56, Tryz.ntmps56
   go_wp2
   go_ret
   exact ⟨z6_, z5_⟩
 ·rw [if_neg c2] at H
  have c2b0 : decide (1 ≤ (a0.size : Int)) = false := decide_eq_false c2
  have c2b1 : decide (1 ≤ a0.size) = false := decide_eq_false (by omega)
  clear c2
  obtain rfl := Option.some.inj H
  go_enter Tryz.func56, Tryz.ntmps56
  go_wp2
  go_ret
  exact ⟨z6_, z5_⟩

end Go.Proofs.YtafdklajmklmkaaGreatDoor.XFnTeams
