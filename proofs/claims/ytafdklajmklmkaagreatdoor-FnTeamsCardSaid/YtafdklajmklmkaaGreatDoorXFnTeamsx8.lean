/- Contracts of the functions that the law FnTeams comes to: each is told as a plain function of its arguments, and the machine's call does what that function says; no condition. Written by programs (print.py, xprint.py); Lean checks it. -/
import Derived.Test.YtafdklajmklmkaaGreatDoorXFnTeamsx0
import Derived.Test.YtafdklajmklmkaaGreatDoorXFnTeamsx4
import Derived.Test.YtafdklajmklmkaaGreatDoorXFnTeamsx5
import Derived.Test.YtafdklajmklmkaaGreatDoorXFnTeamsx7
namespace Go.Proofs.YtafdklajmklmkaaGreatDoor.XFnTeams
open Go.RowKit Go.Proofs.YtafdklajmklmkaaGreatDoorW.PrintWords Go.Proofs.YtafdklajmklmkaaGreatDoorW.PrintLast Go.Proofs.YtafdklajmklmkaaGreatDoorW.PrintMore
attribute [local go_sem] max2_int min2_int max_two min_two max_three min_three max_four min_four   -- for this text's walks alone
set_option linter.unusedVariables false
set_option linter.unusedSimpArgs false

/-! ### impl_idsOf: function 37 -/
def impl_idsOf.l0 : Nat → List Int → List (S41) → Int → Int → Option (List Int)
 | 0, _, _, _, _ => none
 | k + 1, x3, x6, x7, x8 => if x8 < x7 then (if 0 ≤ x8 then (if x8 < (x6.length : Int) then (if x3.length < 17592186044416 then (impl_idsOf.l0 k (x3 ++ [(rd_T41 x6 x8).f0]) x6 x7 (wrap64 (x8 + 1))) else (none)) else (none)) else (none)) else (some x3)
def impl_idsOf.f (k : Nat) (l0 : List (S41)) : Option (List Int) := impl_idsOf.l0 k ([] : List Int) l0 (l0.length : Int) 0
set_option maxHeartbeats 8000000 in
set_option maxRecDepth 100000 in
theorem impl_idsOf.calls (k : Nat) (A0 : Option Addr) (c0 : Nat) (l0 : List (S41)) (r : List Int) (w : World) (hr0 : Kd.C k41 w A0 l0.length l0) (hc0 : l0.length ≤ c0) (h : impl_idsOf.f k l0 = some r) :
  Calls Tryz.prog 37 #[.slice A0 l0.length c0] w fun e w' => ∃ v0_ : Value, e = .returned (v0_) ∧ Kd.R (Kd.int .i64) 3 w' w.heap.size (fun _ => True) v0_ r ∧ Below w.heap.size w w' := by
 have hu41 := Tryz.underlying41; have HR0 := Aside0.mk hr0; have HC0 := Aside0.mk hc0; clear hr0 hc0
 have HB := Aside0.mk (Below.refl w.heap.size w)
 have H : (impl_idsOf.l0 k ([] : List Int) l0 (l0.length : Int) 0) = some r := h
 clear h
 have H' := Aside0.mk H
 clear H
 go_enter Tryz.func37, Tryz.ntmps37
 go_wp2
 go_loopg [3, 8] k (fun kq v3 v8 w' => ∃ (x3_1 : List Int) (x8_1 : Int), v8 = .int .i64 x8_1 ∧ Aside0 (impl_idsOf.l0 kq x3_1 l0 (l0.length : Int) x8_1 = some r) ∧ Aside0 (kq ≤ k) ∧ Aside0 (Kd.R (Kd.int .i64) 3 w' w.heap.size (fun _ => True) v3 x3_1) ∧ Aside0 (Below w.heap.size w w'))
 case atStart => exact ⟨(([] : List Int)), (0), z2_, H', ⟨Nat.le_refl _⟩, ⟨z28_⟩, ⟨z5_⟩⟩
 case round =>
  clear H'
  obtain ⟨x3_1, x8_1, rfl, HA, HK1, HO_3, HB⟩ := hrel
  cases gk with
  | zero => exact absurd HA.out (by simp [impl_idsOf.l0])
  | succ k1 =>
   have H := HA.out; clear HA
   simp only [impl_idsOf.l0] at H
   by_cases c2 : x8_1 < (l0.length : Int)
   ·rw [if_pos c2] at H
    have c2b0 : decide (x8_1 < (l0.length : Int)) = true := decide_eq_true c2
    clear c2
    by_cases c3 : 0 ≤ x8_1
    ·rw [if_pos c3] at H
     have c3b0 : decide (0 ≤ x8_1) = true := decide_eq_true c3
     clear c3
     by_cases c4 : x8_1 < (l0.length : Int)
     ·rw [if_pos c4] at H
      have c4b0 : decide (x8_1 < (l0.length : Int)) = true := decide_eq_true c4
      clear c4
      by_cases c5 : x3_1.length < 17592186044416
      ·rw [if_pos c5] at H
       have LMc5 := Aside0.mk c5; clear c5
       obtain ⟨y244, hy244⟩ : ∃ y_ : List Int, y_ = (x3_1 ++ [(rd_T41 l0 x8_1).f0]) := ⟨_, rfl⟩
       replace H : (impl_idsOf.l0 k1 y244 l0 (l0.length : Int) (wrap64 (x8_1 + 1))) = some r := by first | (rw [hy244]; with_reducible exact H) | (have H2_ := (Option.bind_some _ _).symm.trans H; rw [hy244]; with_reducible exact H2_) | (have H2_ := (Option.bind_some _ _).symm.trans H; with_reducible exact H2_) | with_reducible exact H | (rw [hy244]; exact H) | exact H
       have Ny244 := Aside0.mk hy244; clear hy244
       have H' := Aside0.mk H
       clear H
       have p242 : 0 ≤ (x8_1 : Int) := od_
       have q242 : x8_1 < (l0.length : Int) := od_
       obtain ⟨ad242, e242, hx242_0, hx242_1, hx242_2, hx242_3⟩ := at_T41 HR0.out x8_1 p242 q242
       cases e242
       replace hx242_0 := (HB.out.cell (World.block_lt_of_cell? w _ hx242_0)).trans hx242_0
       replace hx242_1 := (HB.out.cell (World.block_lt_of_cell? w _ hx242_1)).trans hx242_1
       replace hx242_2 := (HB.out.cell (World.block_lt_of_cell? w _ hx242_2)).trans hx242_2
       replace hx242_3 := (HB.out.cell (World.block_lt_of_cell? w _ hx242_3)).trans hx242_3
       replace p242 := eq_true p242
       replace q242 := eq_true q242
       go_wp2_with (first | ((with_reducible refine gate_dst (N := 5) rfl ?_); refine box_event ?hg (N := 5) ?hd (cs := #[.int .i64 0, .string (⟨#[]⟩ : ByteArray), .int .i64 0, .int .i64 0]) (t := 41) ?hr ?_; (case hd => rfl); (case hg => rfl); (case hr => first | (go_simp; done) | (go_simp; rfl)); intro gb243 hg w6 hbox hb; have n0_ := Aside0.mk (Kd.R_below (kr_ HO_3) hb); have n1_ := Aside0.mk (below_step bx_ hb); have n2_ := Aside0.mk (hbox); have n3_ := Aside0.mk ((by rw [hg]; exact (below_size bx_) : w.heap.size ≤ gb243)); have n4_ := Aside0.mk ((by rw [hg]; exact (below_size bx_) : w.heap.size ≤ gb243)); clear HO_3; clear HB; have HO_3 := n0_; have HB := n1_; have BK243 := n2_; have GW243 := n3_; have GE243 := n4_; clear n0_ n1_ n2_ n3_ n4_; clear hb hbox hg; have z7_0 : w6.cell? ⟨gb243, 0, none⟩ = some (.int .i64 0) := (blk_cell BK243.out 0).trans rfl; have z7_1 : w6.cell? ⟨gb243, 1, none⟩ = some (.string (⟨#[]⟩ : ByteArray)) := (blk_cell BK243.out 1).trans rfl; have z7_2 : w6.cell? ⟨gb243, 2, none⟩ = some (.int .i64 0) := (blk_cell BK243.out 2).trans rfl; have z7_3 : w6.cell? ⟨gb243, 3, none⟩ = some (.int .i64 0) := (blk_cell BK243.out 3).trans rfl; have y7_0 := blk_frozen BK243.out 0; have y7_1 := blk_frozen BK243.out 1; have y7_2 := blk_frozen BK243.out 2; have y7_3 := blk_frozen BK243.out 3) | ((with_reducible refine gate_builtin (b := .append) (xs := #[.tmp 12, .tmp 15]) rfl ?_); at_builtin; refine Kd.R_append (Kd.int .i64) (w0 := w) w.heap.size rfl (.tmp 12) (.tmp 15) 27 3 (.int .i64 0) 8 rfl Tryz.underlying27 info3 rfl (by decide) (by omega) u3 x3_1 ((rd_T41 l0 x8_1).f0) [.int .i64 ((rd_T41 l0 x8_1).f0)] (fun _ => True) (fun _ => False) rfl (by first | (go_simp; done) | (go_simp; rfl)) ?aP (fun _ hk => hk.elim) ?aF ?aO ?aB ?aS ?aL ?_; (case aP => exact rfl); (case aB => exact bx_); (case aF => exact (fun _ _ => trivial)); (case aO => exact (by (with_reducible repeat (first | apply Kd.R_alloc | apply Kd.R_drewN | apply Kd.R_drew)); exact Kd.R_mono (Kd.R_far (p := ⟨gb243, 3, none⟩) (Kd.R_far (p := ⟨gb243, 2, none⟩) (Kd.R_far (p := ⟨gb243, 1, none⟩) (Kd.R_far (p := ⟨gb243, 0, none⟩) (Kd.R_types HO_3.out BK243.out (by decide)) (fun _ hk => hk.2) (.int .i64 ((rd_T41 l0 x8_1).f0))) (fun _ hk => hk.2) (.string ((rd_T41 l0 x8_1).f1))) (fun _ hk => hk.2) (.int .i64 ((rd_T41 l0 x8_1).f2))) (fun _ hk => hk.2) (.int .i64 ((rd_T41 l0 x8_1).f3))) (fun _ hk => trivial))); (case aS => exact (below_size bx_)); (case aL => have := LMc5.out; omega); intro v245 w8 ho hb hg hat; rw [← Ny244.out] at ho; have n0_ := Aside0.mk (blk_grown (g := gb243) (o := .cells #[.int .i64 ((rd_T41 l0 x8_1).f0), .string ((rd_T41 l0 x8_1).f1), .int .i64 ((rd_T41 l0 x8_1).f2), .int .i64 ((rd_T41 l0 x8_1).f3)] 41 (0, 0)) (by (with_reducible repeat (first | refine blk_drewN ?_ _ | refine blk_drew ?_ | refine blk_alloc ?_ _)); refine blk_put (cs := #[.int .i64 ((rd_T41 l0 x8_1).f0), .string ((rd_T41 l0 x8_1).f1), .int .i64 ((rd_T41 l0 x8_1).f2), .int .i64 0]) ?_ 3 _ rfl; (with_reducible repeat (first | refine blk_drewN ?_ _ | refine blk_drew ?_ | refine blk_alloc ?_ _)); refine blk_put (cs := #[.int .i64 ((rd_T41 l0 x8_1).f0), .string ((rd_T41 l0 x8_1).f1), .int .i64 0, .int .i64 0]) ?_ 2 _ rfl; (with_reducible repeat (first | refine blk_drewN ?_ _ | refine blk_drew ?_ | refine blk_alloc ?_ _)); refine blk_put (cs := #[.int .i64 ((rd_T41 l0 x8_1).f0), .string (⟨#[]⟩ : ByteArray), .int .i64 0, .int .i64 0]) ?_ 1 _ rfl; (with_reducible repeat (first | refine blk_drewN ?_ _ | refine blk_drew ?_ | refine blk_alloc ?_ _)); refine blk_put (cs := #[.int .i64 0, .string (⟨#[]⟩ : ByteArray), .int .i64 0, .int .i64 0]) ?_ 0 _ rfl; (with_reducible repeat (first | refine blk_drewN ?_ _ | refine blk_drew ?_ | refine blk_alloc ?_ _)); exact BK243.out) hg (Kd.R_ne HO_3.out BK243.out (by decide))); have n1_ := Aside0.mk (hb); have n2_ := Aside0.mk (ho); clear BK243; clear HB; clear HO_3; have BK243 := n0_; have HB := n1_; have HO246 := n2_; clear n0_ n1_ n2_; clear ho hb hg hat))
       go_roundg k1
       case measure => have := HK1.out; omega
       case rel => exact ⟨(y244), (wrap64 (x8_1 + 1)), z2_, H', ⟨by have := HK1.out; omega⟩, ⟨by (with_reducible repeat (first | apply Kd.R_alloc | apply Kd.R_drewN | apply Kd.R_drew)); exact HO246.out⟩, ⟨by repeat (first | (with_reducible first | exact HB.out | apply below_alloc | apply pw_below_drewN | apply below_drew1 | refine below_set ?_ GE243.out) | exact HB.out)⟩⟩
      ·rw [if_neg c5] at H
       exact absurd H (by simp)
     ·rw [if_neg c4] at H
      exact absurd H (by simp)
    ·rw [if_neg c3] at H
     exact absurd H (by simp)
   ·rw [if_neg c2] at H
    have c2b0 : decide (x8_1 < (l0.length : Int)) = false := decide_eq_false c2
    clear c2
    obtain rfl := Option.some.inj H
    go_wp2
    go_ret
    exact ⟨_, z6_, by (with_reducible repeat (first | apply Kd.R_alloc | apply Kd.R_drewN | apply Kd.R_drew)); exact HO_3.out, z5_⟩

/-! ### impl_SmallestTeam: function 7 (by hand) -/
/-- The best so far: none, or one that lies somewhere. -/
def BestIs (W : World) (base : Nat) (v : Value) (b : List Int) : Prop := Kd.R (Kd.int .i64) 3 W base (fun _ => True) v b ∧ (b = [] → v = .slice none 0 0)
theorem BestIs.below {W W1 : World} {base : Nat} {v : Value} {b : List Int} (h : BestIs W base v b) (hb : Below W.heap.size W W1) : BestIs W1 base v b := ⟨Kd.R_below h.1 hb, h.2⟩
theorem BestIs.form {W : World} {base : Nat} {v : Value} {b : List Int} (h : BestIs W base v b) : (b = [] ∧ v = .slice none 0 0) ∨ (0 < b.length ∧ ∃ ad c, v = .slice (some ad) b.length c) := by
 by_cases hb : b = []
 ·exact .inl ⟨hb, h.2 hb⟩
 ·have hl : 0 < b.length := List.length_pos_iff.mpr hb
  obtain ⟨g, cap, e, _⟩ := Kd.R_form h.1 hl
  exact .inr ⟨hl, _, _, e⟩
theorem at_rows {w : World} {A : Option Addr} {n : Nat} {xs : List (List S41)} (h : Kd.C (Kd.slice 41 k41) w A n xs) (i : Nat) (h1 : i < n) (h2 : i < xs.length) : ∃ ad A0 c0, A = some ad ∧ w.cell? (ad.add i) = some (.slice A0 (xs[i]).length c0) ∧ (xs[i]).length ≤ c0 ∧ Kd.C k41 w A0 (xs[i]).length xs[i] := by
 obtain ⟨ad, c, e, _, hK, hc0⟩ := Kd.C_get h ([] : List S41) (i : Int) (by omega) (by omega)
 have er : xs.getD (i : Int).toNat [] = xs[i] := by simp [h2]
 rw [er] at hK
 have hc : ∀ j u, c[j]? = some u → w.cell? (ad.add ((i : Int).toNat * 1 + j)) = some u := hc0
 obtain ⟨A0, c0, rfl, l0, g0⟩ := hK
 exact ⟨ad, A0, c0, e, by have hq := hc 0 _ rfl; rwa [Nat.mul_one, Nat.add_zero, Int.toNat_natCast] at hq, l0, g0⟩
/-- The smallest of the teams that serve; of the teams in line, the first. -/
def smallL (k : Nat) (need : Int) : List (List S41) → List Int → Option (List Int × Bool)
 | [], b => some (b, !b.isEmpty)
 | M :: T, b => if M.length = 0 then none else (impl_skills.f k M).bind fun t => if Go.bits .and .i64 t.1 need = need then (if 20 ≤ t.2 then (if b = [] ∨ M.length < b.length then (if M.length ≤ 1000000 then smallL k need T (idsL M) else none) else smallL k need T b) else smallL k need T b) else smallL k need T b
def impl_SmallestTeam.f (k : Nat) (l0 : List S41) (a1 : Int) : Option (List Int × Bool) := (impl_ArePeople.f k l0).bind fun g => if g = true then ((impl_areSkills.f a1).bind fun s => if s = true then (impl_teams.f k l0).bind fun T => smallL k a1 T [] else some ([], false)) else some ([], false)
set_option maxHeartbeats 8000000 in
set_option maxRecDepth 100000 in
theorem impl_SmallestTeam.calls (k : Nat) (A0 : Option Addr) (c0 : Nat) (l0 : List S41) (a1 : Int) (r1 : List Int) (r2 : Bool) (w : World) (hr0 : Kd.C k41 w A0 l0.length l0) (hc0 : l0.length ≤ c0) (h : impl_SmallestTeam.f k l0 a1 = some (r1, r2)) :
  Calls Tryz.prog 7 #[.slice A0 l0.length c0, .int .i64 a1] w fun e w' => ∃ v0_ : Value, e = .returned (.tuple #[v0_, .bool r2]) ∧ Kd.R (Kd.int .i64) 3 w' w.heap.size (fun _ => True) v0_ r1 ∧ Below w.heap.size w w' := by
 have HR0 := Aside0.mk hr0; have HC0 := Aside0.mk hc0
 have HB := Aside0.mk (Below.refl w.heap.size w)
 unfold impl_SmallestTeam.f at h
 obtain ⟨g, hg, h2⟩ := Option.bind_eq_some_iff.mp h
 have HG := Aside0.mk hg; clear hr0 hc0 h hg
 cases g with
 | false =>
  simp only [Bool.false_eq_true, if_false, Option.some.injEq, Prod.mk.injEq] at h2
  obtain ⟨rfl, rfl⟩ := h2
  go_enter Tryz.func7, Tryz.ntmps7
  go_wp2_with (go_at_call 21; refine (impl_ArePeople.calls k A0 c0 l0 false _ HR0.out HC0.out HG.out).mono ?_; rintro e w1 ⟨rfl, hb⟩; have HB1 := Aside0.mk (below_step HB.out hb); clear hb)
  go_ret2
  exact ⟨_, rfl, Kd.R_nil _ _ _ _ _, HB1.out⟩
 | true =>
  simp only [if_true] at h2
  obtain ⟨s, hs, h3⟩ := Option.bind_eq_some_iff.mp h2
  have HS := Aside0.mk hs; clear h2 hs
  cases s with
  | false =>
   simp only [Bool.false_eq_true, if_false, Option.some.injEq, Prod.mk.injEq] at h3
   obtain ⟨rfl, rfl⟩ := h3
   go_enter Tryz.func7, Tryz.ntmps7
   go_wp2_with (first
    | (go_at_call 21; refine (impl_ArePeople.calls k A0 c0 l0 true _ HR0.out HC0.out HG.out).mono ?_; rintro e w1 ⟨rfl, hb⟩; have HB1 := Aside0.mk (below_step HB.out hb); clear hb)
    | (go_at_call 34; refine (impl_areSkills.calls a1 false _ HS.out).mono ?_; rintro e w2 ⟨rfl, ⟨nd, rfl⟩⟩; have HB2 := Aside0.mk (pw_below_drewN HB1.out nd)))
   go_ret2
   exact ⟨_, rfl, Kd.R_nil _ _ _ _ _, HB2.out⟩
  | true =>
   simp only [if_true] at h3
   obtain ⟨T, hT, h4⟩ := Option.bind_eq_some_iff.mp h3
   have HT := Aside0.mk hT; have H0 := Aside0.mk h4; clear h3 hT h4
   go_enter Tryz.func7, Tryz.ntmps7
   go_wp2_with (first
    | (go_at_call 21; refine (impl_ArePeople.calls k A0 c0 l0 true _ HR0.out HC0.out HG.out).mono ?_; rintro e w1 ⟨rfl, hb⟩; have HB1 := Aside0.mk (below_step HB.out hb); clear hb)
    | (go_at_call 34; refine (impl_areSkills.calls a1 true _ HS.out).mono ?_; rintro e w2 ⟨rfl, ⟨nd, rfl⟩⟩; have HB2 := Aside0.mk (pw_below_drewN HB1.out nd))
    | (go_at_call 35; refine (impl_teams.calls k A0 c0 l0 T _ (Kd.C_below HR0.out HB2.out) HC0.out HT.out).mono ?_; rintro e w3 ⟨v, rfl, hv, hb⟩; obtain ⟨Av, cv, rfl, hcl, hC⟩ := Kd.S_reads hv; have HCV := Aside0.mk hC; have HB3 := Aside0.mk (below_step HB2.out hb); clear hb hv hC hcl))
   have HLM := Aside0.mk (show T.length ≤ 9223372036854775807 from HCV.out.2.1)
   go_loopg [6, 22] T.length (fun kq v6 v22 w' => ∃ (j : Nat) (b : List Int), v22 = .int .i64 j ∧ Aside0 (kq + j = T.length) ∧ Aside0 (smallL k a1 (T.drop j) b = some (r1, r2)) ∧ Aside0 (BestIs w' w.heap.size v6 b) ∧ Aside0 (Below w.heap.size w w') ∧ Aside0 (Kd.C (Kd.slice 41 k41) w' Av T.length T))
   case atStart => exact ⟨0, [], rfl, ⟨rfl⟩, H0, ⟨⟨Kd.R_nil _ _ _ _ _, fun _ => rfl⟩⟩, HB3, HCV⟩
   case round =>
    clear H0 HCV HB1 HB2 HB3; obtain ⟨j, b, rfl, HJ, HM, HBI, HB, HCV⟩ := hrel
    have q29 : ∀ (w : World) (a : Option Addr) (n c n' c' : Nat), (binOp .eql 27 (.slice a n c) (.slice none n' c')).run Tryz.prog w = .ok (.bool a.isNone) w := fun w a n c n' c' => Lib.run_eql_slice_nil w _ _ a n c n' c' Tryz.underlying27
    have q29n : ∀ (w : World) (a : Option Addr) (n c n' c' : Nat), (binOp .neq 27 (.slice a n c) (.slice none n' c')).run Tryz.prog w = .ok (.bool (!a.isNone)) w := fun w a n c n' c' => run_neq_slice_nil_any w _ _ a n c n' c' Tryz.underlying27
    cases gk with
    | zero =>
     have c1 : ¬ j < T.length := by have := HJ.out; omega
     have c1n : decide (j < T.length) = false := decide_eq_false c1
     have c1b : decide ((j : Int) < (T.length : Int)) = false := decide_eq_false (by omega)
     have H := HM.out
     rw [List.drop_of_length_le (by omega)] at H
     clear HM c1
     rcases HBI.out.form with ⟨rfl, rfl⟩ | ⟨hl, ad, cb, rfl⟩
     ·simp only [smallL, List.isEmpty_nil, Bool.not_true, Option.some.injEq, Prod.mk.injEq] at H
      obtain ⟨rfl, rfl⟩ := H
      go_wp2
      go_ret2
      exact ⟨_, rfl, Kd.R_nil _ _ _ _ _, HB.out⟩
     ·have hbe : b.isEmpty = false := by cases b with | nil => simp at hl | cons _ _ => rfl
      simp only [smallL, hbe, Bool.not_false, Option.some.injEq, Prod.mk.injEq] at H
      obtain ⟨rfl, rfl⟩ := H; clear hl hbe
      go_wp2
      go_ret2
      exact ⟨_, rfl, HBI.out.1, HB.out⟩
    | succ q =>
     have c1 : j < T.length := by have := HJ.out; omega
     have c1n : decide (j < T.length) = true := decide_eq_true c1
     have c1b : decide ((j : Int) < (T.length : Int)) = true := decide_eq_true (by omega)
     have CJ := Aside0.mk c1
     obtain ⟨ad, A', c', e1, hx, hle, hCM⟩ := at_rows HCV.out j c1 c1
     cases e1
     have H := HM.out
     rw [List.drop_eq_getElem_cons c1] at H
     generalize T[j] = M at hx hle hCM H
     have HLE := Aside0.mk hle; have HCM := Aside0.mk hCM; clear HM hle hCM
     simp only [smallL] at H
     by_cases h0 : M.length = 0
     ·rw [if_pos h0] at H; cases H
     rw [if_neg h0] at H
     obtain ⟨⟨own, trips⟩, hsk, H2⟩ := Option.bind_eq_some_iff.mp H
     have HSK := Aside0.mk hsk; have HM0 := Aside0.mk h0; clear H hsk h0
     simp only at H2
     by_cases d1 : Go.bits .and .i64 own a1 = a1
     ·rw [if_pos d1] at H2
      have d1b : (Go.bits .and .i64 own a1 == a1) = true := beq_iff_eq.mpr d1
      clear d1
      by_cases d2 : 20 ≤ trips
      ·rw [if_pos d2] at H2
       have d2b : decide (20 ≤ trips) = true := decide_eq_true d2
       clear d2
       by_cases d3 : b = [] ∨ M.length < b.length
       ·rw [if_pos d3] at H2
        by_cases d4 : M.length ≤ 1000000
        ·rw [if_pos d4] at H2
         have HE := Aside0.mk H2; have HD4 := Aside0.mk d4; clear H2 d4
         rcases HBI.out.form with ⟨rfl, rfl⟩ | ⟨hl, ad2, cb, rfl⟩
         ·clear d3
          go_wp2_with (first
           | (go_at_call 36; refine (impl_skills.calls k A' c' M own trips _ HCM.out HLE.out HSK.out).mono ?_; rintro e w4 ⟨rfl, hb⟩; have HB4 := Aside0.mk (below_step HB.out hb); have HCM4 := Aside0.mk (Kd.C_below HCM.out hb); have HCV4 := Aside0.mk (Kd.C_below HCV.out hb); clear hb)
           | (go_at_call 37; refine (idsOf_gr A' c' M _ HCM4.out HLE.out HD4.out).mono ?_; rintro e w5 ⟨v5, rfl, ho, hg⟩; have HO5 := Aside0.mk (Kd.R_lower ho (below_size HB4.out)); have HB5 := Aside0.mk (below_step HB4.out hg.1); have HCV5 := Aside0.mk (Kd.C_below HCV4.out hg.1); clear ho hg))
          go_roundg q
          case measure => omega
          case rel => exact ⟨j + 1, idsL M, congrArg (Value.int .i64) (by have := CJ.out; have := HLM.out; first | rfl | (unfold wrap64; omega) | omega), ⟨by have := HJ.out; omega⟩, HE, ⟨⟨HO5.out, fun h => absurd (congrArg List.length h) (by have := HM0.out; unfold idsL; simpa using this)⟩⟩, HB5, HCV5⟩
         ·have d3b : M.length < b.length := d3.resolve_left (fun h => by rw [h] at hl; simp at hl)
          have d3n : decide (M.length < b.length) = true := decide_eq_true d3b
          have d3i : decide ((M.length : Int) < (b.length : Int)) = true := decide_eq_true (by omega)
          clear d3 d3b hl
          go_wp2_with (first
           | (go_at_call 36; refine (impl_skills.calls k A' c' M own trips _ HCM.out HLE.out HSK.out).mono ?_; rintro e w4 ⟨rfl, hb⟩; have HB4 := Aside0.mk (below_step HB.out hb); have HCM4 := Aside0.mk (Kd.C_below HCM.out hb); have HCV4 := Aside0.mk (Kd.C_below HCV.out hb); clear hb)
           | (go_at_call 37; refine (idsOf_gr A' c' M _ HCM4.out HLE.out HD4.out).mono ?_; rintro e w5 ⟨v5, rfl, ho, hg⟩; have HO5 := Aside0.mk (Kd.R_lower ho (below_size HB4.out)); have HB5 := Aside0.mk (below_step HB4.out hg.1); have HCV5 := Aside0.mk (Kd.C_below HCV4.out hg.1); clear ho hg))
          go_roundg q
          case measure => omega
          case rel => exact ⟨j + 1, idsL M, congrArg (Value.int .i64) (by have := CJ.out; have := HLM.out; first | rfl | (unfold wrap64; omega) | omega), ⟨by have := HJ.out; omega⟩, HE, ⟨⟨HO5.out, fun h => absurd (congrArg List.length h) (by have := HM0.out; unfold idsL; simpa using this)⟩⟩, HB5, HCV5⟩
        ·rw [if_neg d4] at H2; cases H2
       ·rw [if_neg d3] at H2
        have HE := Aside0.mk H2; clear H2
        rcases HBI.out.form with ⟨rfl, _⟩ | ⟨hl, ad2, cb, rfl⟩
        ·exact absurd (.inl rfl) d3
        ·have d3b : ¬ M.length < b.length := fun h => d3 (.inr h)
         have d3n : decide (M.length < b.length) = false := decide_eq_false d3b
         have d3i : decide ((M.length : Int) < (b.length : Int)) = false := decide_eq_false (by omega)
         clear d3 d3b hl
         go_wp2_with (first
          | (go_at_call 36; refine (impl_skills.calls k A' c' M own trips _ HCM.out HLE.out HSK.out).mono ?_; rintro e w4 ⟨rfl, hb⟩; have HB4 := Aside0.mk (below_step HB.out hb); have HBI4 := Aside0.mk (BestIs.below HBI.out hb); have HCV4 := Aside0.mk (Kd.C_below HCV.out hb); clear hb))
         go_roundg q
         case measure => omega
         case rel => exact ⟨j + 1, b, congrArg (Value.int .i64) (by have := CJ.out; have := HLM.out; first | rfl | (unfold wrap64; omega) | omega), ⟨by have := HJ.out; omega⟩, HE, HBI4, HB4, HCV4⟩
      ·rw [if_neg d2] at H2
       have d2b : decide (20 ≤ trips) = false := decide_eq_false d2
       have HE := Aside0.mk H2; clear d2 H2
       go_wp2_with (first
        | (go_at_call 36; refine (impl_skills.calls k A' c' M own trips _ HCM.out HLE.out HSK.out).mono ?_; rintro e w4 ⟨rfl, hb⟩; have HB4 := Aside0.mk (below_step HB.out hb); have HBI4 := Aside0.mk (BestIs.below HBI.out hb); have HCV4 := Aside0.mk (Kd.C_below HCV.out hb); clear hb))
       go_roundg q
       case measure => omega
       case rel => exact ⟨j + 1, b, congrArg (Value.int .i64) (by have := CJ.out; have := HLM.out; first | rfl | (unfold wrap64; omega) | omega), ⟨by have := HJ.out; omega⟩, HE, HBI4, HB4, HCV4⟩
     ·rw [if_neg d1] at H2
      have d1b : (Go.bits .and .i64 own a1 == a1) = false := beq_eq_false_iff_ne.mpr d1
      have HE := Aside0.mk H2; clear d1 H2
      go_wp2_with (first
       | (go_at_call 36; refine (impl_skills.calls k A' c' M own trips _ HCM.out HLE.out HSK.out).mono ?_; rintro e w4 ⟨rfl, hb⟩; have HB4 := Aside0.mk (below_step HB.out hb); have HBI4 := Aside0.mk (BestIs.below HBI.out hb); have HCV4 := Aside0.mk (Kd.C_below HCV.out hb); clear hb))
      go_roundg q
      case measure => omega
      case rel => exact ⟨j + 1, b, congrArg (Value.int .i64) (by have := CJ.out; have := HLM.out; first | rfl | (unfold wrap64; omega) | omega), ⟨by have := HJ.out; omega⟩, HE, HBI4, HB4, HCV4⟩


/-! ### spec_l1In: function 65 -/
def spec_l1In.f (a0 : Int) (a1 : Int) (a2 : Int) : Option (Bool) := if a0 ≥ a1 then (some (decide (a0 ≤ a2))) else (some false)
set_option maxHeartbeats 8000000 in
set_option maxRecDepth 100000 in
theorem spec_l1In.calls (a0 : Int) (a1 : Int) (a2 : Int) (r : Bool) (w : World) (h : spec_l1In.f a0 a1 a2 = some r) :
  Calls Tryz.prog 65 #[.int .i64 a0, .int .i64 a1, .int .i64 a2] w fun e w' => e = .returned (.bool r) ∧ Drawn0 w w' := by
 have H : (if a0 ≥ a1 then (some (decide (a0 ≤ a2))) else (some false)) = some r := h
 clear h
 by_cases c4 : a0 ≥ a1
 ·rw [if_pos c4] at H
  have c4b0 : decide (a1 ≤ a0) = true := decide_eq_true c4
  clear c4
  obtain rfl := Option.some.inj H
  go_enter Tryz.func65, Tryz.ntmps65
  go_wp2
  go_ret
  exact ⟨z2_, z7_⟩
 ·rw [if_neg c4] at H
  have c4b0 : decide (a1 ≤ a0) = false := decide_eq_false c4
  clear c4
  obtain rfl := Option.some.inj H
  go_enter Tryz.func65, Tryz.ntmps65
  go_wp2
  go_ret
  exact ⟨z2_, z7_⟩

/-! ### spec_l5Skills: function 39 -/
def spec_l5Skills.f (a0 : Int) : Option (Bool) := (spec_l1In.f a0 0 15).bind fun t247 => (some t247)
set_option maxHeartbeats 8000000 in
set_option maxRecDepth 100000 in
theorem spec_l5Skills.calls (a0 : Int) (r : Bool) (w : World) (h : spec_l5Skills.f a0 = some r) :
  Calls Tryz.prog 39 #[.int .i64 a0] w fun e w' => e = .returned (.bool r) ∧ Drawn0 w w' := by
 have H : ((spec_l1In.f a0 0 15).bind fun t247 => (some t247)) = some r := h
 clear h; replace H := Option.bind_eq_some_iff.mp H; obtain ⟨t247, A20, H⟩ := H
 replace H : (some t247) = some r := H
 have A2 := Aside0.mk A20; clear A20
 obtain rfl := Option.some.inj H
 go_enter Tryz.func39, Tryz.ntmps39
 go_wp2_with (first | ((with_reducible refine gate_callee (f := 65) rfl ?_); refine goesL_ (some 4) rfl rfl Tryz.func65 (by kernel_rfl) rfl #[.int .i64 a0, .int .i64 0, .int .i64 15] rfl gl_ ?_; (with_reducible refine (spec_l1In.calls a0 0 15 t247 _ A2.out).mono ?_); rintro e w' ⟨rfl, ⟨nd, rfl⟩⟩; refine ⟨_, rfl, ?_⟩))
 go_ret
 exact ⟨z2_, z7_⟩

/-! ### spec_l2Word: function 66 -/
def spec_l2Word.l0 : Nat → ByteArray → Int → Option (Bool)
 | 0, _, _ => none
 | k + 1, x0, x3 => if x3 < (x0.size : Int) then (if 0 ≤ x3 then (if (bt x0 x3) < 97 then (some false) else (if (bt x0 x3) > 122 then (some false) else (spec_l2Word.l0 k x0 (wrap64 (x3 + 1))))) else (none)) else ((spec_l1In.f (x0.size : Int) 1 10).bind fun t248 => (some t248))
def spec_l2Word.f (k : Nat) (a0 : ByteArray) : Option (Bool) := spec_l2Word.l0 k a0 0
set_option maxHeartbeats 8000000 in
set_option maxRecDepth 100000 in
theorem spec_l2Word.calls (k : Nat) (a0 : ByteArray) (r : Bool) (w : World) (h : spec_l2Word.f k a0 = some r) :
  Calls Tryz.prog 66 #[.string a0] w fun e w' => e = .returned (.bool r) ∧ Drawn0 w w' := by
 have H : (spec_l2Word.l0 k a0 0) = some r := h
 clear h
 have H' := Aside0.mk H
 clear H
 go_enter Tryz.func66, Tryz.ntmps66
 go_wp2
 go_loopg [3] k (fun kq v3 w' => ∃ (x3_1 : Int), v3 = .int .i64 x3_1 ∧ Aside0 (spec_l2Word.l0 kq a0 x3_1 = some r) ∧ Aside0 (kq ≤ k) ∧ Drawn0 w w')
 case atStart => exact ⟨(0), z2_, H', ⟨Nat.le_refl _⟩, z7_⟩
 case round =>
  clear H'
  obtain ⟨x3_1, rfl, HA, HK1, ⟨m1, rfl⟩⟩ := hrel
  cases gk with
  | zero => exact absurd HA.out (by simp [spec_l2Word.l0])
  | succ k1 =>
   have H := HA.out; clear HA
   simp only [spec_l2Word.l0] at H
   by_cases c2 : x3_1 < (a0.size : Int)
   ·rw [if_pos c2] at H
    have c2b0 : decide (x3_1 < (a0.size : Int)) = true := decide_eq_true c2
    clear c2
    by_cases c3 : 0 ≤ x3_1
    ·rw [if_pos c3] at H
     have c3b0 : decide (0 ≤ x3_1) = true := decide_eq_true c3
     clear c3
     by_cases c5 : (bt a0 x3_1) < 97
     ·rw [if_pos c5] at H
      have c5b0 : decide ((bt a0 x3_1) < 97) = true := decide_eq_true c5
      clear c5
      obtain rfl := Option.some.inj H
      have p4 : 0 ≤ (x3_1 : Int) := od_
      have q4 : x3_1 < (a0.size : Int) := od_
      have hx4 := bt_at a0 x3_1
      replace p4 := eq_true p4
      replace q4 := eq_true q4
      go_wp2
      go_ret
      exact ⟨z2_, z7_⟩
     ·rw [if_neg c5] at H
      have c5b0 : decide ((bt a0 x3_1) < 97) = false := decide_eq_false c5
      clear c5
      by_cases c7 : (bt a0 x3_1) > 122
      ·rw [if_pos c7] at H
       have c7b0 : decide (122 < (bt a0 x3_1)) = true := decide_eq_true c7
       clear c7
       obtain rfl := Option.some.inj H
       have p4 : 0 ≤ (x3_1 : Int) := od_
       have q4 : x3_1 < (a0.size : Int) := od_
       have hx4 := bt_at a0 x3_1
       replace p4 := eq_true p4
       replace q4 := eq_true q4
       have p6 : 0 ≤ (x3_1 : Int) := od_
       have q6 : x3_1 < (a0.size : Int) := od_
       have hx6 := bt_at a0 x3_1
       replace p6 := eq_true p6
       replace q6 := eq_true q6
       go_wp2
       go_ret
       exact ⟨z2_, z7_⟩
      ·rw [if_neg c7] at H
       have c7b0 : decide (122 < (bt a0 x3_1)) = false := decide_eq_false c7
       clear c7
       have H' := Aside0.mk H
       clear H
       have p4 : 0 ≤ (x3_1 : Int) := od_
       have q4 : x3_1 < (a0.size : Int) := od_
       have hx4 := bt_at a0 x3_1
       replace p4 := eq_true p4
       replace q4 := eq_true q4
       have p6 : 0 ≤ (x3_1 : Int) := od_
       have q6 : x3_1 < (a0.size : Int) := od_
       have hx6 := bt_at a0 x3_1
       replace p6 := eq_true p6
       replace q6 := eq_true q6
       go_wp2
       go_roundg k1
       case measure => have := HK1.out; omega
       case rel => exact ⟨(wrap64 (x3_1 + 1)), z2_, H', ⟨by have := HK1.out; omega⟩, z7_⟩
    ·rw [if_neg c3] at H
     exact absurd H (by simp)
   ·rw [if_neg c2] at H
    have c2b0 : decide (x3_1 < (a0.size : Int)) = false := decide_eq_false c2
    clear c2; replace H := Option.bind_eq_some_iff.mp H; obtain ⟨t248, A80, H⟩ := H
    replace H : (some t248) = some r := H
    have A8 := Aside0.mk A80; clear A80
    obtain rfl := Option.some.inj H
    go_wp2_with (first | ((with_reducible refine gate_callee (f := 65) rfl ?_); refine goesL_ (some 22) rfl rfl Tryz.func65 (by kernel_rfl) rfl #[.int .i64 (a0.size : Int), .int .i64 1, .int .i64 10] rfl gl_ ?_; (with_reducible refine (spec_l1In.calls (a0.size : Int) 1 10 t248 _ A8.out).mono ?_); rintro e w' ⟨rfl, ⟨nd, rfl⟩⟩; refine ⟨_, rfl, ?_⟩))
    go_ret
    exact ⟨z2_, z7_⟩

end Go.Proofs.YtafdklajmklmkaaGreatDoor.XFnTeams
