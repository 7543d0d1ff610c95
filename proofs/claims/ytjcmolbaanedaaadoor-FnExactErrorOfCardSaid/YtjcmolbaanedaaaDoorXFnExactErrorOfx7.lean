/- Contracts of the functions that the law FnExactErrorOf comes to: each is told as a plain function of its arguments, and the machine's call does what that function says; no condition. Written by programs (print.py, xprint.py); Lean checks it. -/
import Derived.Test.YtjcmolbaanedaaaDoorXFnExactErrorOfx0
import Derived.Test.YtjcmolbaanedaaaDoorXFnExactErrorOfx1
import Derived.Test.YtjcmolbaanedaaaDoorXFnExactErrorOfx5
import Derived.Test.YtjcmolbaanedaaaDoorXFnExactErrorOfx6
namespace Go.Proofs.YtjcmolbaanedaaaDoor.XFnExactErrorOf
open Go.RowKit Go.Proofs.YtjcmolbaanedaaaDoorW.PrintWords Go.Proofs.YtjcmolbaanedaaaDoorW.PrintLast Go.Proofs.YtjcmolbaanedaaaDoorW.PrintMore
attribute [local go_sem] max2_int min2_int max_two min_two max_three min_three max_four min_four   -- for this text's walks alone
set_option linter.unusedVariables false
set_option linter.unusedSimpArgs false

/-! ### impl_network_errorOf: function 59 (by hand) -/
theorem netQ {W : World} {g : Nat} {P : List Bool} {Q : List S25} {vT vC : Value} (p8 : P.length = 8) (q8 : Q.length = 8) (hg : W.heap[g]? = some (.cells (encN P Q vT vC) 68 (0, 0))) (i : Nat) (hi : i < 8) : W.cell? ⟨g, 8 + i * 3, none⟩ = some (.int .i64 (Q.getD i ⟨0, 0, 0⟩).f0) ∧ W.cell? ⟨g, 8 + i * 3 + 1, none⟩ = some (.int .i64 (Q.getD i ⟨0, 0, 0⟩).f1) ∧ W.cell? ⟨g, 8 + i * 3 + 2, none⟩ = some (.int .i64 (Q.getD i ⟨0, 0, 0⟩).f2) := by
  have e0 := (blk_cell hg (8 + (3 * i + 0))).trans (encN_q p8 i 0 (by omega) (by omega))
  have e1 := (blk_cell hg (8 + (3 * i + 1))).trans (encN_q p8 i 1 (by omega) (by omega))
  have e2 := (blk_cell hg (8 + (3 * i + 2))).trans (encN_q p8 i 2 (by omega) (by omega))
  rw [show 8 + (3 * i + 0) = 8 + i * 3 by omega] at e0
  rw [show 8 + (3 * i + 1) = 8 + i * 3 + 1 by omega] at e1
  rw [show 8 + (3 * i + 2) = 8 + i * 3 + 2 by omega] at e2
  exact ⟨e0, e1, e2⟩
/-- The error of a leg. -/
def netError (k : Nat) (Q : List S25) (x : S28) : Option (Int × Int × Int) := if 0 ≤ x.f0 ∧ x.f0 < 8 ∧ 0 ≤ x.f1 ∧ x.f1 < 8 then (impl_Leg_shift.f k x.f0 x.f1 x.f2 x.f3 x.f4).bind fun s => (impl_Shift_plus.f s.1 s.2.1 s.2.2 (Q.getD x.f1.toNat ⟨0, 0, 0⟩).f0 (Q.getD x.f1.toNat ⟨0, 0, 0⟩).f1 (Q.getD x.f1.toNat ⟨0, 0, 0⟩).f2 (-1)).bind fun q => impl_Shift_plus.f q.1 q.2.1 q.2.2 (Q.getD x.f0.toNat ⟨0, 0, 0⟩).f0 (Q.getD x.f0.toNat ⟨0, 0, 0⟩).f1 (Q.getD x.f0.toNat ⟨0, 0, 0⟩).f2 1 else none
theorem netError.mono (k : Nat) (Q : List S25) (x : S28) : LeO (netError k Q x) (netError (k + 1) Q x) := by
  unfold netError
  exact LeO.ite (LeO.bind (impl_Leg_shift.mono _ _ _ _ _ k) (fun _ => LeO.refl _)) (LeO.refl _)
set_option maxHeartbeats 4000000 in
set_option maxRecDepth 100000 in
theorem impl_network_errorOf.calls (k : Nat) (g : Nat) (x : S28) (r1 r2 r3 : Int) (w0 w : World) (P : List Bool) (Q : List S25) (T : List Bool) (C : List Int) (hT : Tab w) (hN : IsNet w0 w g P Q T C) (h : netError k Q x = some (r1, r2, r3)) :
    Calls Tryd.prog 59 #[.pointer (some ⟨g, 0, none⟩), .agg #[.int .i64 x.f0, .int .i64 x.f1, .int .i64 x.f2, .int .i64 x.f3, .int .i64 x.f4]] w fun e w' => e = .returned (.agg #[.int .i64 r1, .int .i64 r2, .int .i64 r3]) ∧ Below w.heap.size w w' := by
  unfold netError at h
  split at h
  case isFalse => cases h
  rename_i hb
  obtain ⟨hb0, hb1, hb2, hb3⟩ := hb
  obtain ⟨⟨s1, s2, s3⟩, hs, h⟩ := Option.bind_eq_some_iff.mp h
  obtain ⟨⟨q1, q2, q3⟩, hq, h⟩ := Option.bind_eq_some_iff.mp h
  have HS := Aside0.mk hs
  have HQ : Aside0 (impl_Shift_plus.f s1 s2 s3 (Q.getD x.f1.toNat ⟨0, 0, 0⟩).f0 (Q.getD x.f1.toNat ⟨0, 0, 0⟩).f1 (Q.getD x.f1.toNat ⟨0, 0, 0⟩).f2 (-1) = some (q1, q2, q3)) := ⟨hq⟩
  have HZ : Aside0 (impl_Shift_plus.f q1 q2 q3 (Q.getD x.f0.toNat ⟨0, 0, 0⟩).f0 (Q.getD x.f0.toNat ⟨0, 0, 0⟩).f1 (Q.getD x.f0.toNat ⟨0, 0, 0⟩).f2 1 = some (r1, r2, r3)) := ⟨h⟩
  have HT := Aside0.mk hT
  have HB := Aside0.mk (Below.refl w.heap.size w)
  obtain ⟨gT, vC, hg, _, _⟩ := hN.cells
  have q8 := hN.ql
  have p8 := hN.pl
  have HC : Aside0 (∀ (W : World), W.heap[g]? = some (.cells (encN P Q (.slice (some ⟨gT, 0, none⟩) T.length T.length) vC) 68 (0, 0)) → ∀ i, i < 8 → W.cell? ⟨g, 8 + i * 3, none⟩ = some (.int .i64 (Q.getD i ⟨0, 0, 0⟩).f0) ∧ W.cell? ⟨g, 8 + i * 3 + 1, none⟩ = some (.int .i64 (Q.getD i ⟨0, 0, 0⟩).f1) ∧ W.cell? ⟨g, 8 + i * 3 + 2, none⟩ = some (.int .i64 (Q.getD i ⟨0, 0, 0⟩).f2)) := ⟨fun W h i hi => netQ p8 q8 h i hi⟩
  generalize (encN P Q (.slice (some ⟨gT, 0, none⟩) T.length T.length) vC) = cs at hg HC
  have HN := Aside0.mk hg
  have hlt := blk_lt hg
  clear hs hq h hT hN hg q8 p8
  obtain ⟨a0, a1, a2⟩ := HC.out w HN.out x.f0.toNat (by omega)
  obtain ⟨b0, b1, b2⟩ := HC.out w HN.out x.f1.toNat (by omega)
  have hne : g ≠ w.heap.size := by omega
  have hne2 : g ≠ w.heap.size + 1 := by omega
  generalize hA : Q.getD x.f0.toNat ⟨0, 0, 0⟩ = qa at a0 a1 a2 HZ
  generalize hB : Q.getD x.f1.toNat ⟨0, 0, 0⟩ = qb at b0 b1 b2 HQ
  have HAA := Aside0.mk hA
  have HBB := Aside0.mk hB
  clear hA hB
  go_enter Tryd.func59, Tryd.ntmps59
  go_upto_region 1 with (fail)
  have HX1 : Aside0 (((w.alloc (.cells #[.int .i64 x.f0, .int .i64 x.f1, .int .i64 x.f2, .int .i64 x.f3, .int .i64 x.f4] 28)).alloc (.cells #[.int .i64 0, .int .i64 0, .int .i64 0] 25)).heap[w.heap.size]? = some (.cells #[.int .i64 x.f0, .int .i64 x.f1, .int .i64 x.f2, .int .i64 x.f3, .int .i64 x.f4] 28 (0, 0))) := ⟨blk_alloc (blk_new w _) _⟩
  have HR1 : Aside0 (((w.alloc (.cells #[.int .i64 x.f0, .int .i64 x.f1, .int .i64 x.f2, .int .i64 x.f3, .int .i64 x.f4] 28)).alloc (.cells #[.int .i64 0, .int .i64 0, .int .i64 0] 25)).heap[w.heap.size + 1]? = some (.cells #[.int .i64 0, .int .i64 0, .int .i64 0] 25 (0, 0))) := ⟨by have e := blk_new (w.alloc (.cells #[.int .i64 x.f0, .int .i64 x.f1, .int .i64 x.f2, .int .i64 x.f3, .int .i64 x.f4] 28)) (.cells #[.int .i64 0, .int .i64 0, .int .i64 0] 25); rwa [show (w.alloc (.cells #[.int .i64 x.f0, .int .i64 x.f1, .int .i64 x.f2, .int .i64 x.f3, .int .i64 x.f4] 28)).heap.size = w.heap.size + 1 by simp] at e⟩
  have HB1 : Aside0 (Below w.heap.size w ((w.alloc (.cells #[.int .i64 x.f0, .int .i64 x.f1, .int .i64 x.f2, .int .i64 x.f3, .int .i64 x.f4] 28)).alloc (.cells #[.int .i64 0, .int .i64 0, .int .i64 0] 25))) := ⟨below_alloc (below_alloc (Below.refl _ _) _) _⟩
  have HN1 : Aside0 (((w.alloc (.cells #[.int .i64 x.f0, .int .i64 x.f1, .int .i64 x.f2, .int .i64 x.f3, .int .i64 x.f4] 28)).alloc (.cells #[.int .i64 0, .int .i64 0, .int .i64 0] 25)).heap[g]? = some (.cells cs 68 (0, 0))) := ⟨blk_below HN.out HB1.out⟩
  have HGX : Aside0 (w.heap.size ≤ w.heap.size) := ⟨Nat.le_refl _⟩
  have HGR : Aside0 (w.heap.size ≤ w.heap.size + 1) := ⟨by omega⟩
  have hxr : w.heap.size ≠ w.heap.size + 1 := by omega
  have hgr : g ≠ w.heap.size + 1 := hne2
  have HCa : Aside0 (∀ (W : World), W.heap[g]? = some (.cells cs 68 (0, 0)) → W.cell? ⟨g, 8 + x.f0.toNat * 3, none⟩ = some (.int .i64 qa.f0) ∧ W.cell? ⟨g, 8 + x.f0.toNat * 3 + 1, none⟩ = some (.int .i64 qa.f1) ∧ W.cell? ⟨g, 8 + x.f0.toNat * 3 + 2, none⟩ = some (.int .i64 qa.f2)) := ⟨fun W h => by have := HC.out W h x.f0.toNat (by omega); rw [HAA.out] at this; exact this⟩
  have HCb : Aside0 (∀ (W : World), W.heap[g]? = some (.cells cs 68 (0, 0)) → W.cell? ⟨g, 8 + x.f1.toNat * 3, none⟩ = some (.int .i64 qb.f0) ∧ W.cell? ⟨g, 8 + x.f1.toNat * 3 + 1, none⟩ = some (.int .i64 qb.f1) ∧ W.cell? ⟨g, 8 + x.f1.toNat * 3 + 2, none⟩ = some (.int .i64 qb.f2)) := ⟨fun W h => by have := HC.out W h x.f1.toNat (by omega); rw [HBB.out] at this; exact this⟩
  clear a0 a1 a2 b0 b1 b2 HC HAA HBB HN hlt hne hne2
  generalize ((w.alloc (.cells #[.int .i64 x.f0, .int .i64 x.f1, .int .i64 x.f2, .int .i64 x.f3, .int .i64 x.f4] 28)).alloc (.cells #[.int .i64 0, .int .i64 0, .int .i64 0] 25)) = W1 at HX1 HR1 HB1 HN1 ⊢
  generalize w.heap.size + 1 = gr at HR1 HGR hxr hgr ⊢
  generalize hgx : w.heap.size = gx at HX1 hxr HGX ⊢
  have HGX' : Aside0 (w.heap.size = gx) := ⟨hgx⟩
  clear hgx
  have bx0 := blk_cell HX1.out 0
  have bx1 := blk_cell HX1.out 1
  have bx2 := blk_cell HX1.out 2
  have bx3 := blk_cell HX1.out 3
  have bx4 := blk_cell HX1.out 4
  obtain ⟨a0, a1, a2⟩ := HCa.out _ HN1.out
  obtain ⟨b0, b1, b2⟩ := HCb.out _ HN1.out
  go_region_held3 (fun w' => w'.cell? ⟨gx, 0, none⟩ = some (.int .i64 x.f0) ∧ w'.cell? ⟨gx, 1, none⟩ = some (.int .i64 x.f1) ∧ w'.cell? ⟨gx, 2, none⟩ = some (.int .i64 x.f2) ∧ w'.cell? ⟨gx, 3, none⟩ = some (.int .i64 x.f3) ∧ w'.cell? ⟨gx, 4, none⟩ = some (.int .i64 x.f4) ∧ w'.cell? ⟨g, 8 + x.f0.toNat * 3, none⟩ = some (.int .i64 qa.f0) ∧ w'.cell? ⟨g, 8 + x.f0.toNat * 3 + 1, none⟩ = some (.int .i64 qa.f1) ∧ w'.cell? ⟨g, 8 + x.f0.toNat * 3 + 2, none⟩ = some (.int .i64 qa.f2) ∧ w'.cell? ⟨g, 8 + x.f1.toNat * 3, none⟩ = some (.int .i64 qb.f0) ∧ w'.cell? ⟨g, 8 + x.f1.toNat * 3 + 1, none⟩ = some (.int .i64 qb.f1) ∧ w'.cell? ⟨g, 8 + x.f1.toNat * 3 + 2, none⟩ = some (.int .i64 qb.f2)) (first | (have hx5_ := (blk_far (p := ⟨gr, 2, none⟩) (blk_far (p := ⟨gr, 1, none⟩) (blk_far (p := ⟨gr, 0, none⟩) HX4.out hxr (.int .i64 r1)) hxr (.int .i64 r2)) hxr (.int .i64 r3)); have hn5_ := (blk_far (p := ⟨gr, 2, none⟩) (blk_far (p := ⟨gr, 1, none⟩) (blk_far (p := ⟨gr, 0, none⟩) HN4.out hgr (.int .i64 r1)) hgr (.int .i64 r2)) hgr (.int .i64 r3)); exact ⟨blk_cell hx5_ 0, blk_cell hx5_ 1, blk_cell hx5_ 2, blk_cell hx5_ 3, blk_cell hx5_ 4, (HCa.out _ hn5_).1, (HCa.out _ hn5_).2.1, (HCa.out _ hn5_).2.2, (HCb.out _ hn5_).1, (HCb.out _ hn5_).2.1, (HCb.out _ hn5_).2.2⟩) | exact ⟨blk_cell HX4.out 0, blk_cell HX4.out 1, blk_cell HX4.out 2, blk_cell HX4.out 3, blk_cell HX4.out 4, (HCa.out _ HN4.out).1, (HCa.out _ HN4.out).2.1, (HCa.out _ HN4.out).2.2, (HCb.out _ HN4.out).1, (HCb.out _ HN4.out).2.1, (HCb.out _ HN4.out).2.2⟩ | exact ⟨blk_cell HX3.out 0, blk_cell HX3.out 1, blk_cell HX3.out 2, blk_cell HX3.out 3, blk_cell HX3.out 4, (HCa.out _ HN3.out).1, (HCa.out _ HN3.out).2.1, (HCa.out _ HN3.out).2.2, (HCb.out _ HN3.out).1, (HCb.out _ HN3.out).2.1, (HCb.out _ HN3.out).2.2⟩ | exact ⟨blk_cell HX2.out 0, blk_cell HX2.out 1, blk_cell HX2.out 2, blk_cell HX2.out 3, blk_cell HX2.out 4, (HCa.out _ HN2.out).1, (HCa.out _ HN2.out).2.1, (HCa.out _ HN2.out).2.2, (HCb.out _ HN2.out).1, (HCb.out _ HN2.out).2.1, (HCb.out _ HN2.out).2.2⟩ | exact ⟨blk_cell HX1.out 0, blk_cell HX1.out 1, blk_cell HX1.out 2, blk_cell HX1.out 3, blk_cell HX1.out 4, (HCa.out _ HN1.out).1, (HCa.out _ HN1.out).2.1, (HCa.out _ HN1.out).2.2, (HCb.out _ HN1.out).1, (HCb.out _ HN1.out).2.1, (HCb.out _ HN1.out).2.2⟩ | go_keep) ((first
    | (go_at_call 45; refine (impl_Leg_shift.calls k x.f0 x.f1 x.f2 x.f3 x.f4 s1 s2 s3 _ (Tab.below HT.out (by repeat (first | exact HB1.out | apply below_drew1 | apply pw_below_drewN))) HS.out).mono ?_; rintro e w2 ⟨rfl, hb⟩; have HX2 := Aside0.mk (blk_below (blk_drew HX1.out) hb); have HR2 := Aside0.mk (blk_below (blk_drew HR1.out) hb); have HN2 := Aside0.mk (blk_below (blk_drew HN1.out) hb); have HB2 := Aside0.mk (below_step (below_drew1 HB1.out) hb); clear hb)
    | (go_at_call 49; (with_reducible refine (impl_Shift_plus.calls s1 s2 s3 qb.f0 qb.f1 qb.f2 (-1) q1 q2 q3 _ HQ.out).mono ?_); rintro e w3 ⟨rfl, hb⟩; have HX3 := Aside0.mk (blk_below (HX2.out) hb); have HR3 := Aside0.mk (blk_below (HR2.out) hb); have HN3 := Aside0.mk (blk_below HN2.out hb); have HB3 := Aside0.mk (below_step (HB2.out) hb); clear hb)
    | (go_at_call 49; (with_reducible refine (impl_Shift_plus.calls q1 q2 q3 qa.f0 qa.f1 qa.f2 1 r1 r2 r3 _ HZ.out).mono ?_); rintro e w4 ⟨rfl, hb⟩; have HX4 := Aside0.mk (blk_below (HX3.out) hb); have HR4 := Aside0.mk (blk_below (HR3.out) hb); have HN4 := Aside0.mk (blk_below HN3.out hb); have HB4 := Aside0.mk (below_step (HB3.out) hb); clear hb; have rc0 := blk_cell HR4.out 0; have rc1 := blk_cell HR4.out 1; have rc2 := blk_cell HR4.out 2; have rf0 := blk_frozen HR4.out 0; have rf1 := blk_frozen HR4.out 1; have rf2 := blk_frozen HR4.out 2)
    | fail))
  go_wp2
  refine bodyPost_ret (results_cell_row rfl _ _ gr 25 #[.int .i64 r1, .int .i64 r2, .int .i64 r3] (0, 0) _ rfl (blk_put (cs := #[.int .i64 r1, .int .i64 r2, .int .i64 0]) (blk_put (cs := #[.int .i64 r1, .int .i64 0, .int .i64 0]) (blk_put (cs := #[.int .i64 0, .int .i64 0, .int .i64 0]) HR4.out 0 _ rfl) 1 _ rfl) 2 _ rfl) Tryd.underlying25 rfl (by kernel_rfl)) rfl ?_
  exact ⟨rfl, by first | exact below_set (below_set (below_set HB4.out HGR.out) HGR.out) HGR.out | (rw [← HGX'.out]; exact below_set (below_set (below_set HB4.out HGR.out) HGR.out) HGR.out)⟩


/-! ### impl_ErrorOf: function 27 (by hand) -/
theorem IsNet.lower {w w1 W : World} {g : Nat} {P : List Bool} {Q : List S25} {T : List Bool} {C : List Int} (h : IsNet w1 W g P Q T C) (hle : w.heap.size ≤ w1.heap.size) : IsNet w W g P Q T C := by
  obtain ⟨gT, vC, h1, h2, h3⟩ := h.cells
  exact ⟨h.pl, h.ql, Nat.le_trans hle h.ge, h.tl, gT, vC, h1, h2, Kd.R_lower h3 hle⟩
theorem IsNet.cellP {w0 W : World} {g : Nat} {P : List Bool} {Q : List S25} {T : List Bool} {C : List Int} (h : IsNet w0 W g P Q T C) (i : Nat) (hi : i < 8) : W.cell? ⟨g, i, none⟩ = some (.bool (P.getD i false)) := by
  obtain ⟨gT, vC, h1, _, _⟩ := h.cells
  have p8 := h.pl
  exact (blk_cell h1 i).trans (encN_p i (by omega))
def impl_ErrorOf.f (k : Nat) (l0 : List S28) (a1 : Int) : Option (Int × Int × Int × Bool) := (impl_areLegs.f k l0).bind fun b => if b = true then (impl_within.f a1 0 (wrap64 ((l0.length : Int) - 1))).bind fun c => if c = true then (if 0 ≤ a1 ∧ a1 < (l0.length : Int) then (impl_place.f k l0).bind fun t => if 0 ≤ (rd_T28 l0 a1).f0 ∧ (rd_T28 l0 a1).f0 < 8 then (if t.1.getD (rd_T28 l0 a1).f0.toNat false = true then (netError k t.2.1 (rd_T28 l0 a1)).bind fun q => some (q.1, q.2.1, q.2.2, true) else some (0, 0, 0, false)) else none else none) else some (0, 0, 0, false) else some (0, 0, 0, false)
theorem impl_ErrorOf.mono : ∀ a0 a1 k, LeO (impl_ErrorOf.f k a0 a1) (impl_ErrorOf.f (k + 1) a0 a1) := by
  intro a0 a1 k
  have ih0 := impl_areLegs.mono a0 k
  have ih1 := impl_place.mono a0 k
  unfold impl_ErrorOf.f
  repeat' first
    | exact ih0
    | exact ih1
    | exact netError.mono k _ _
    | exact LeO.refl _
    | refine LeO.ite ?_ ?_
    | refine LeO.bind ?_ (fun _ => ?_)
set_option maxHeartbeats 4000000 in
set_option maxRecDepth 100000 in
theorem impl_ErrorOf.calls (k : Nat) (A0 : Option Addr) (c0 : Nat) (l0 : List S28) (a1 : Int) (r1 r2 r3 : Int) (r4 : Bool) (w : World) (hT : Tab w) (hr0 : Kd.C k28 w A0 l0.length l0) (hc0 : l0.length ≤ c0) (h : impl_ErrorOf.f k l0 a1 = some (r1, r2, r3, r4)) :
    Calls Tryd.prog 27 #[.slice A0 l0.length c0, .int .i64 a1] w fun e w' => e = .returned (.tuple #[.agg #[.int .i64 r1, .int .i64 r2, .int .i64 r3], .bool r4]) ∧ Below w.heap.size w w' := by
  have HT := Aside0.mk hT
  have HR0 := Aside0.mk hr0
  have HC0 := Aside0.mk hc0
  unfold impl_ErrorOf.f at h
  obtain ⟨b, hb, h⟩ := Option.bind_eq_some_iff.mp h
  have HA := Aside0.mk hb
  clear hT hr0 hc0 hb
  cases b with
  | false =>
    simp only [Bool.false_eq_true, if_false, Option.some.injEq, Prod.mk.injEq] at h
    obtain ⟨rfl, rfl, rfl, rfl⟩ := h
    go_enter Tryd.func27, Tryd.ntmps27
    go_upto_region 1 with (fail)
    have R4 : Aside0 ((w.alloc (.cells #[.int .i64 0, .int .i64 0, .int .i64 0] 25)).heap[w.heap.size]? = some (.cells #[.int .i64 0, .int .i64 0, .int .i64 0] 25 (0, 0))) := ⟨blk_new w _⟩
    have HB0 : Aside0 (Below w.heap.size w (w.alloc (.cells #[.int .i64 0, .int .i64 0, .int .i64 0] 25))) := ⟨below_alloc (Below.refl _ _) _⟩
    generalize (w.alloc (.cells #[.int .i64 0, .int .i64 0, .int .i64 0] 25)) = W0 at R4 HB0 ⊢
    go_wp2_with (go_at_call 48; refine (impl_areLegs.calls k A0 c0 l0 false _ (Kd.C_below HR0.out HB0.out) HC0.out HA.out).mono ?_; rintro e w1 ⟨rfl, hb⟩; have HB1 := Aside0.mk (below_step HB0.out hb); have S4 := Aside0.mk (blk_below R4.out hb); clear hb; have z0 : World.cell? w1 ⟨w.heap.size, 0, none⟩ = some (.int .i64 0) := blk_cell S4.out 0; have zf0 := blk_frozen S4.out 0; have z1 : World.cell? w1 ⟨w.heap.size, 1, none⟩ = some (.int .i64 0) := blk_cell S4.out 1; have zf1 := blk_frozen S4.out 1; have z2 : World.cell? w1 ⟨w.heap.size, 2, none⟩ = some (.int .i64 0) := blk_cell S4.out 2; have zf2 := blk_frozen S4.out 2)
    refine bodyPost_ret (results_list (rs := [.cell 4 25, .tmp 5]) rfl (by simp) (.cell w.heap.size 25 #[.int .i64 0, .int .i64 0, .int .i64 0] (0, 0) _ rfl (blk_put (cs := #[.int .i64 0, .int .i64 0, .int .i64 0]) (blk_put (cs := #[.int .i64 0, .int .i64 0, .int .i64 0]) (blk_put (cs := #[.int .i64 0, .int .i64 0, .int .i64 0]) S4.out 0 _ rfl) 1 _ rfl) 2 _ rfl) Tryd.underlying25 rfl (by kernel_rfl) (.tmp .nil))) rfl ?_
    exact ⟨by first | rfl | simp, by with_reducible repeat (first | exact HB1.out | refine below_drew1 ?_ | refine pw_below_drewN ?_ _ | refine below_set ?_ (Nat.le_refl _))⟩
  | true =>
    simp only [if_true] at h
    obtain ⟨c, hc, h⟩ := Option.bind_eq_some_iff.mp h
    have HW := Aside0.mk hc
    clear hc
    cases c with
    | false =>
      simp only [Bool.false_eq_true, if_false, Option.some.injEq, Prod.mk.injEq] at h
      obtain ⟨rfl, rfl, rfl, rfl⟩ := h
      go_enter Tryd.func27, Tryd.ntmps27
      go_upto_region 1 with (fail)
      have R4 : Aside0 ((w.alloc (.cells #[.int .i64 0, .int .i64 0, .int .i64 0] 25)).heap[w.heap.size]? = some (.cells #[.int .i64 0, .int .i64 0, .int .i64 0] 25 (0, 0))) := ⟨blk_new w _⟩
      have HB0 : Aside0 (Below w.heap.size w (w.alloc (.cells #[.int .i64 0, .int .i64 0, .int .i64 0] 25))) := ⟨below_alloc (Below.refl _ _) _⟩
      generalize (w.alloc (.cells #[.int .i64 0, .int .i64 0, .int .i64 0] 25)) = W0 at R4 HB0 ⊢
      go_wp2_with (first | (go_at_call 48; refine (impl_areLegs.calls k A0 c0 l0 true _ (Kd.C_below HR0.out HB0.out) HC0.out HA.out).mono ?_; rintro e w1 ⟨rfl, hb⟩; have HB1 := Aside0.mk (below_step HB0.out hb); have S4 := Aside0.mk (blk_below R4.out hb); clear hb) | (go_at_call 58; refine (impl_within.calls a1 0 (wrap64 ((l0.length : Int) - 1)) false _ HW.out).mono ?_; rintro e w2 ⟨rfl, hd⟩; have HB2 := Aside0.mk (below_step HB1.out hd.below); have T4 := Aside0.mk (blk_below S4.out hd.below); clear hd; have z0 : World.cell? w2 ⟨w.heap.size, 0, none⟩ = some (.int .i64 0) := blk_cell T4.out 0; have zf0 := blk_frozen T4.out 0; have z1 : World.cell? w2 ⟨w.heap.size, 1, none⟩ = some (.int .i64 0) := blk_cell T4.out 1; have zf1 := blk_frozen T4.out 1; have z2 : World.cell? w2 ⟨w.heap.size, 2, none⟩ = some (.int .i64 0) := blk_cell T4.out 2; have zf2 := blk_frozen T4.out 2))
      refine bodyPost_ret (results_list (rs := [.cell 4 25, .tmp 5]) rfl (by simp) (.cell w.heap.size 25 #[.int .i64 0, .int .i64 0, .int .i64 0] (0, 0) _ rfl (blk_put (cs := #[.int .i64 0, .int .i64 0, .int .i64 0]) (blk_put (cs := #[.int .i64 0, .int .i64 0, .int .i64 0]) (blk_put (cs := #[.int .i64 0, .int .i64 0, .int .i64 0]) T4.out 0 _ rfl) 1 _ rfl) 2 _ rfl) Tryd.underlying25 rfl (by kernel_rfl) (.tmp .nil))) rfl ?_
      exact ⟨by first | rfl | simp, by with_reducible repeat (first | exact HB2.out | refine below_drew1 ?_ | refine pw_below_drewN ?_ _ | refine below_set ?_ (Nat.le_refl _))⟩
    | true =>
      simp only [if_true] at h
      split at h
      case isFalse => cases h
      rename_i hr
      obtain ⟨hr0, hr1⟩ := hr
      obtain ⟨⟨P, Q, T, C⟩, hp, h⟩ := Option.bind_eq_some_iff.mp h
      have HP := Aside0.mk hp
      clear hp
      obtain ⟨ad, e1, hx0, hx1, hx2, hx3, hx4⟩ := at_T28 HR0.out a1 hr0 hr1
      cases e1
      generalize rd_T28 l0 a1 = x at hx0 hx1 hx2 hx3 hx4 h
      split at h
      case isFalse => cases h
      rename_i hb
      obtain ⟨hb0, hb1⟩ := hb
      have HX0 := Aside0.mk hx0
      have HX1 := Aside0.mk hx1
      have HX2 := Aside0.mk hx2
      have HX3 := Aside0.mk hx3
      have HX4 := Aside0.mk hx4
      have HH := Aside0.mk h
      clear hx0 hx1 hx2 hx3 hx4 h
      go_enter Tryd.func27, Tryd.ntmps27
      go_upto_region 1 with (fail)
      have R4 : Aside0 ((w.alloc (.cells #[.int .i64 0, .int .i64 0, .int .i64 0] 25)).heap[w.heap.size]? = some (.cells #[.int .i64 0, .int .i64 0, .int .i64 0] 25 (0, 0))) := ⟨blk_new w _⟩
      have HB0 : Aside0 (Below w.heap.size w (w.alloc (.cells #[.int .i64 0, .int .i64 0, .int .i64 0] 25))) := ⟨below_alloc (Below.refl _ _) _⟩
      generalize (w.alloc (.cells #[.int .i64 0, .int .i64 0, .int .i64 0] 25)) = W0 at R4 HB0 ⊢
      go_upto_region 4 with (first | (go_at_call 48; refine (impl_areLegs.calls k (some ad) c0 l0 true _ (Kd.C_below HR0.out HB0.out) HC0.out HA.out).mono ?_; rintro e w1 ⟨rfl, hb⟩; have HB1 := Aside0.mk (below_step HB0.out hb); have S4 := Aside0.mk (blk_below R4.out hb); clear hb) | (go_at_call 58; refine (impl_within.calls a1 0 (wrap64 ((l0.length : Int) - 1)) true _ HW.out).mono ?_; rintro e w2 ⟨rfl, hd⟩; have HB2 := Aside0.mk (below_step HB1.out hd.below); have T4 := Aside0.mk (blk_below S4.out hd.below); clear hd) | (go_at_call 52; refine (impl_place.calls k (some ad) c0 l0 P Q T C _ (Tab.below HT.out HB2.out) (Kd.C_below HR0.out HB2.out) HC0.out HP.out).mono ?_; rintro e w3 ⟨g, rfl, hN, hb⟩; have HN := Aside0.mk hN; have HB3 := Aside0.mk (below_step HB2.out hb); have U4 := Aside0.mk (blk_below T4.out hb); clear hb hN))
      have hx0 := (HB3.out.cell (World.block_lt_of_cell? w _ HX0.out)).trans HX0.out
      have hx1 := (HB3.out.cell (World.block_lt_of_cell? w _ HX1.out)).trans HX1.out
      have hx2 := (HB3.out.cell (World.block_lt_of_cell? w _ HX2.out)).trans HX2.out
      have hx3 := (HB3.out.cell (World.block_lt_of_cell? w _ HX3.out)).trans HX3.out
      have hx4 := (HB3.out.cell (World.block_lt_of_cell? w _ HX4.out)).trans HX4.out
      have hpc : w3.cell? ⟨g, x.f0.toNat, none⟩ = some (.bool (P.getD x.f0.toNat false)) := HN.out.cellP x.f0.toNat (by omega)
      have h := HH.out
      generalize P.getD x.f0.toNat false = pb at hpc h
      cases pb with
      | false =>
        simp only [Bool.false_eq_true, if_false, Option.some.injEq, Prod.mk.injEq] at h
        obtain ⟨rfl, rfl, rfl, rfl⟩ := h
        go_quiet (fail)
        revert nq
        intro n1
        go_upto_region 5 with (fail)
        have U5 := Aside0.mk (blk_drewN U4.out n1)
        have HB5 := Aside0.mk (pw_below_drewN HB3.out n1)
        clear hx0 hx1 hx2 hx3 hx4 hpc
        generalize (World.drewN w3 n1) = w5 at U5 HB5 ⊢
        have z0 : World.cell? w5 ⟨w.heap.size, 0, none⟩ = some (.int .i64 0) := blk_cell U5.out 0
        have zf0 := blk_frozen U5.out 0
        have z1 : World.cell? w5 ⟨w.heap.size, 1, none⟩ = some (.int .i64 0) := blk_cell U5.out 1
        have zf1 := blk_frozen U5.out 1
        have z2 : World.cell? w5 ⟨w.heap.size, 2, none⟩ = some (.int .i64 0) := blk_cell U5.out 2
        have zf2 := blk_frozen U5.out 2
        go_wp2
        refine bodyPost_ret (results_list (rs := [.cell 4 25, .tmp 5]) rfl (by simp) (.cell w.heap.size 25 #[.int .i64 0, .int .i64 0, .int .i64 0] (0, 0) _ rfl (blk_put (cs := #[.int .i64 0, .int .i64 0, .int .i64 0]) (blk_put (cs := #[.int .i64 0, .int .i64 0, .int .i64 0]) (blk_put (cs := #[.int .i64 0, .int .i64 0, .int .i64 0]) U5.out 0 _ rfl) 1 _ rfl) 2 _ rfl) Tryd.underlying25 rfl (by kernel_rfl) (.tmp .nil))) rfl ?_
        exact ⟨by first | rfl | simp, by with_reducible repeat (first | exact HB5.out | refine below_drew1 ?_ | refine pw_below_drewN ?_ _ | refine below_set ?_ (Nat.le_refl _))⟩
      | true =>
        simp only [if_true] at h
        obtain ⟨⟨q1, q2, q3⟩, hq, h⟩ := Option.bind_eq_some_iff.mp h
        simp only [Option.some.injEq, Prod.mk.injEq] at h
        obtain ⟨rfl, rfl, rfl, rfl⟩ := h
        have HQ := Aside0.mk hq
        clear hq
        go_quiet (fail)
        go_wp2_with (go_at_call 59; refine (impl_network_errorOf.calls k g x q1 q2 q3 _ _ P Q T C (Tab.below HT.out (pw_below_drewN HB3.out _)) (HN.out.step (pw_below_drewN (Below.refl _ _) _)) HQ.out).mono ?_; rintro e w6 ⟨rfl, hb⟩; have HB6 := Aside0.mk (below_step (pw_below_drewN HB3.out _) hb); have U6 := Aside0.mk (blk_below (blk_drewN U4.out _) hb); clear hb; have z0 : World.cell? w6 ⟨w.heap.size, 0, none⟩ = some (.int .i64 0) := blk_cell U6.out 0; have zf0 := blk_frozen U6.out 0; have z1 : World.cell? w6 ⟨w.heap.size, 1, none⟩ = some (.int .i64 0) := blk_cell U6.out 1; have zf1 := blk_frozen U6.out 1; have z2 : World.cell? w6 ⟨w.heap.size, 2, none⟩ = some (.int .i64 0) := blk_cell U6.out 2; have zf2 := blk_frozen U6.out 2)
        refine bodyPost_ret (results_list (rs := [.cell 4 25, .tmp 5]) rfl (by simp) (.cell w.heap.size 25 #[.int .i64 q1, .int .i64 q2, .int .i64 q3] (0, 0) _ rfl (blk_put (cs := #[.int .i64 q1, .int .i64 q2, .int .i64 0]) (blk_put (cs := #[.int .i64 q1, .int .i64 0, .int .i64 0]) (blk_put (cs := #[.int .i64 0, .int .i64 0, .int .i64 0]) U6.out 0 _ rfl) 1 _ rfl) 2 _ rfl) Tryd.underlying25 rfl (by kernel_rfl) (.tmp .nil))) rfl ?_
        exact ⟨by first | rfl | simp, by with_reducible repeat (first | exact HB6.out | refine below_drew1 ?_ | refine pw_below_drewN ?_ _ | refine below_set ?_ (Nat.le_refl _))⟩


/-! ### laws_FnExactErrorOf: function 7 -/
def laws_FnExactErrorOf.j0 : Nat → List (S23) → List (S28) → Bool → Option (Bool)
  | 0, _, _, _ => none
  | k + 1, x0, x8, x39 => if x39 = true then (some false) else ((laws_toLegS.f k x0).bind fun t296 => ((laws_eqLegS.f k x8 t296).bind fun t299 => (if t299 = true then (some true) else (some false))))
def laws_FnExactErrorOf.f (k : Nat) (l0 : List (S23)) (a1 : Int) : Option (Bool) := (laws_szLegS.f l0 1048576).bind fun t278 => (if t278 < 0 then (some true) else ((laws_toLegS.f k l0).bind fun t279 => ((spec_ErrorOf.f k t279 a1).bind fun bt282 => ((laws_toLegS.f k l0).bind fun t287 => ((impl_ErrorOf.f k t287 a1).bind fun bt290 => ((laws_eqShift.f bt290.1 bt290.2.1 bt290.2.2.1 bt282.1 bt282.2.1 bt282.2.2.1).bind fun t295 => (if t295 = true then (laws_FnExactErrorOf.j0 k l0 t287 (bt290.2.2.2 != bt282.2.2.2)) else (laws_FnExactErrorOf.j0 k l0 t287 true))))))))
theorem laws_FnExactErrorOf.mono_l : ∀ k, (∀ y0 y1 y2, LeO (laws_FnExactErrorOf.j0 k y0 y1 y2) (laws_FnExactErrorOf.j0 (k + 1) y0 y1 y2))
  | 0 => fun _ _ _ r h => by simp [laws_FnExactErrorOf.j0] at h
  | k + 1 => by
    have ih0 := laws_FnExactErrorOf.mono_l k
    · intro y0 y1 y2
      unfold laws_FnExactErrorOf.j0
      repeat' first
      | (with_reducible exact ih0 _ _ _)
      | (with_reducible exact impl_ErrorOf.mono _ _ _)
      | (with_reducible exact laws_eqLegS.mono _ _ _)
      | (with_reducible exact laws_toLegS.mono _ _)
      | (with_reducible exact spec_ErrorOf.mono _ _ _)
      | (with_reducible exact LeO.refl _)
      | (with_reducible exact LeO.none _)
      | (with_reducible refine LeO.ite ?_ ?_)
      | (with_reducible refine LeO.bind ?_ (fun _ => ?_))
      | exact ih0 _ _ _
      | exact impl_ErrorOf.mono _ _ _
      | exact laws_eqLegS.mono _ _ _
      | exact laws_toLegS.mono _ _
      | exact spec_ErrorOf.mono _ _ _
      | exact LeO.none _
      | refine LeO.ite ?_ ?_
      | refine LeO.bind ?_ (fun _ => ?_)
theorem laws_FnExactErrorOf.mono : ∀ a0 a1 k, LeO (laws_FnExactErrorOf.f k a0 a1) (laws_FnExactErrorOf.f (k + 1) a0 a1) := by
  intro a0 a1 k
  have ih0 := laws_FnExactErrorOf.mono_l k
  unfold laws_FnExactErrorOf.f
  repeat' first
      | (with_reducible exact ih0 _ _ _)
      | (with_reducible exact impl_ErrorOf.mono _ _ _)
      | (with_reducible exact laws_eqLegS.mono _ _ _)
      | (with_reducible exact laws_toLegS.mono _ _)
      | (with_reducible exact spec_ErrorOf.mono _ _ _)
      | (with_reducible exact LeO.refl _)
      | (with_reducible exact LeO.none _)
      | (with_reducible refine LeO.ite ?_ ?_)
      | (with_reducible refine LeO.bind ?_ (fun _ => ?_))
      | exact ih0 _ _ _
      | exact impl_ErrorOf.mono _ _ _
      | exact laws_eqLegS.mono _ _ _
      | exact laws_toLegS.mono _ _
      | exact spec_ErrorOf.mono _ _ _
      | exact LeO.none _
      | refine LeO.ite ?_ ?_
      | refine LeO.bind ?_ (fun _ => ?_)
set_option maxHeartbeats 8000000 in
set_option maxRecDepth 100000 in
theorem laws_FnExactErrorOf.calls (k : Nat) (A0 : Option Addr) (c0 : Nat) (l0 : List (S23)) (a1 : Int) (r : Bool) (w : World) (hT : Tab w) (hr0 : Kd.C k23 w A0 l0.length l0) (hc0 : l0.length ≤ c0) (h : laws_FnExactErrorOf.f k l0 a1 = some r) :
    Calls Tryd.prog 7 #[.slice A0 l0.length c0, .int .i64 a1] w fun e w' => e = .returned (.bool r) ∧ Below w.heap.size w w' := by
  have HT := Aside0.mk hT
  clear hT
  have hu25 := Tryd.underlying25
  have HR0 := Aside0.mk hr0
  have HC0 := Aside0.mk hc0
  clear hr0 hc0
  have HB := Aside0.mk (Below.refl w.heap.size w)
  have H : ((laws_szLegS.f l0 1048576).bind fun t278 => (if t278 < 0 then (some true) else ((laws_toLegS.f k l0).bind fun t279 => ((spec_ErrorOf.f k t279 a1).bind fun bt282 => ((laws_toLegS.f k l0).bind fun t287 => ((impl_ErrorOf.f k t287 a1).bind fun bt290 => ((laws_eqShift.f bt290.1 bt290.2.1 bt290.2.2.1 bt282.1 bt282.2.1 bt282.2.2.1).bind fun t295 => (if t295 = true then (laws_FnExactErrorOf.j0 k l0 t287 (bt290.2.2.2 != bt282.2.2.2)) else (laws_FnExactErrorOf.j0 k l0 t287 true))))))))) = some r := h
  clear h
  replace H := Option.bind_eq_some_iff.mp H
  obtain ⟨t278, A30, H⟩ := H
  replace H : (if t278 < 0 then (some true) else ((laws_toLegS.f k l0).bind fun t279 => ((spec_ErrorOf.f k t279 a1).bind fun bt282 => ((laws_toLegS.f k l0).bind fun t287 => ((impl_ErrorOf.f k t287 a1).bind fun bt290 => ((laws_eqShift.f bt290.1 bt290.2.1 bt290.2.2.1 bt282.1 bt282.2.1 bt282.2.2.1).bind fun t295 => (if t295 = true then (laws_FnExactErrorOf.j0 k l0 t287 (bt290.2.2.2 != bt282.2.2.2)) else (laws_FnExactErrorOf.j0 k l0 t287 true)))))))) = some r := H
  have A3 := Aside0.mk A30
  clear A30
  by_cases c4 : t278 < 0
  · rw [if_pos c4] at H
    have c4b0 : decide (t278 < 0) = true := decide_eq_true c4
    clear c4
    obtain rfl := Option.some.inj H
    go_enter Tryd.func7, Tryd.ntmps7
    go_wp2_with (first | ((with_reducible refine gate_callee (f := 17) rfl ?_); refine goesL_ (some 13) rfl rfl Tryd.func17 (by kernel_rfl) rfl #[.slice A0 l0.length c0, .int .i64 1048576] rfl (by (try simp only [List.map_toArray, List.map_cons, List.map_nil]); first | done | rfl | (simp only [List.length_drop, List.length_take]; rfl)) ?_; (with_reducible refine (laws_szLegS.calls _ _ l0 1048576 t278 _ ?side1 ?side2 A3.out).mono ?_); (case side1 => repeat (first | exact HR0.out | (with_reducible refine Kd.C_alloc ?_ _) | (with_reducible refine Kd.C_drewN ?_ _) | (with_reducible refine Kd.C_drew ?_))); (case side2 => exact HC0.out); rintro e w' ⟨rfl, ⟨nd, rfl⟩⟩; refine ⟨_, rfl, ?_⟩))
    go_ret
    exact ⟨by first | rfl | (simp [errW_none, errW_some] <;> rfl) | (simp [*, errW_none, errW_some] <;> rfl), by repeat (first | (with_reducible first | exact HB.out | apply below_alloc | apply pw_below_drewN | apply below_drew1) | exact HB.out)⟩
  · rw [if_neg c4] at H
    have c4b0 : decide (t278 < 0) = false := decide_eq_false c4
    clear c4
    replace H := Option.bind_eq_some_iff.mp H
    obtain ⟨t279, A50, H⟩ := H
    replace H : ((spec_ErrorOf.f k t279 a1).bind fun bt282 => ((laws_toLegS.f k l0).bind fun t287 => ((impl_ErrorOf.f k t287 a1).bind fun bt290 => ((laws_eqShift.f bt290.1 bt290.2.1 bt290.2.2.1 bt282.1 bt282.2.1 bt282.2.2.1).bind fun t295 => (if t295 = true then (laws_FnExactErrorOf.j0 k l0 t287 (bt290.2.2.2 != bt282.2.2.2)) else (laws_FnExactErrorOf.j0 k l0 t287 true)))))) = some r := H
    have A5 := Aside0.mk A50
    clear A50
    replace H := Option.bind_eq_some_iff.mp H
    obtain ⟨⟨t282, t283, t284, t285⟩, A60, H⟩ := H
    replace H : ((laws_toLegS.f k l0).bind fun t287 => ((impl_ErrorOf.f k t287 a1).bind fun bt290 => ((laws_eqShift.f bt290.1 bt290.2.1 bt290.2.2.1 t282 t283 t284).bind fun t295 => (if t295 = true then (laws_FnExactErrorOf.j0 k l0 t287 (bt290.2.2.2 != t285)) else (laws_FnExactErrorOf.j0 k l0 t287 true))))) = some r := H
    have A6 := Aside0.mk A60
    clear A60
    replace H := Option.bind_eq_some_iff.mp H
    obtain ⟨t287, A70, H⟩ := H
    replace H : ((impl_ErrorOf.f k t287 a1).bind fun bt290 => ((laws_eqShift.f bt290.1 bt290.2.1 bt290.2.2.1 t282 t283 t284).bind fun t295 => (if t295 = true then (laws_FnExactErrorOf.j0 k l0 t287 (bt290.2.2.2 != t285)) else (laws_FnExactErrorOf.j0 k l0 t287 true)))) = some r := H
    have A7 := Aside0.mk A70
    clear A70
    replace H := Option.bind_eq_some_iff.mp H
    obtain ⟨⟨t290, t291, t292, t293⟩, A80, H⟩ := H
    replace H : ((laws_eqShift.f t290 t291 t292 t282 t283 t284).bind fun t295 => (if t295 = true then (laws_FnExactErrorOf.j0 k l0 t287 (t293 != t285)) else (laws_FnExactErrorOf.j0 k l0 t287 true))) = some r := H
    have A8 := Aside0.mk A80
    clear A80
    have HC9 := Aside0.mk H
    clear H
    go_enter Tryd.func7, Tryd.ntmps7
    go_upto_region 8 with (first | ((with_reducible refine gate_callee (f := 17) rfl ?_); refine goesL_ (some 13) rfl rfl Tryd.func17 (by kernel_rfl) rfl #[.slice A0 l0.length c0, .int .i64 1048576] rfl (by (try simp only [List.map_toArray, List.map_cons, List.map_nil]); first | done | rfl | (simp only [List.length_drop, List.length_take]; rfl)) ?_; (with_reducible refine (laws_szLegS.calls _ _ l0 1048576 t278 _ ?side1 ?side2 A3.out).mono ?_); (case side1 => repeat (first | exact HR0.out | (with_reducible refine Kd.C_alloc ?_ _) | (with_reducible refine Kd.C_drewN ?_ _) | (with_reducible refine Kd.C_drew ?_))); (case side2 => exact HC0.out); rintro e w' ⟨rfl, ⟨nd, rfl⟩⟩; refine ⟨_, rfl, ?_⟩) | ((with_reducible refine gate_callee (f := 19) rfl ?_); refine goesL_ (some 18) rfl rfl Tryd.func19 (by kernel_rfl) rfl #[.slice A0 l0.length c0] rfl (by (try simp only [List.map_toArray, List.map_cons, List.map_nil]); first | done | rfl | (simp only [List.length_drop, List.length_take]; rfl)) ?_; (with_reducible refine (laws_toLegS.calls k _ _ l0 t279 _ ?side1 ?side2 A5.out).mono ?_); (case side1 => repeat (first | exact HR0.out | (with_reducible refine Kd.C_alloc ?_ _) | (with_reducible refine Kd.C_drewN ?_ _) | (with_reducible refine Kd.C_drew ?_))); (case side2 => exact HC0.out); rintro e w10 ⟨v280, rfl, ho0, hb⟩; refine ⟨_, rfl, ?_⟩; have n0_ := Aside0.mk (Kd.R_lower ho0 (below_size (by repeat (first | (with_reducible first | exact HB.out | apply below_alloc | apply pw_below_drewN | apply below_drew1) | exact HB.out)))); have n1_ := Aside0.mk (below_step (by repeat (first | (with_reducible first | exact HB.out | apply below_alloc | apply pw_below_drewN | apply below_drew1) | exact HB.out)) hb); clear HB; have HO281 := n0_; have HB := n1_; clear n0_ n1_; (try clear hb); (try clear hb2); (try clear hk); (try clear hi); (try clear ho0); obtain ⟨Ao11, co11, eo11⟩ := Kd.R_slice HO281.out; subst eo11) | ((with_reducible refine gate_callee (f := 26) rfl ?_); refine goesL_ (some 20) rfl rfl Tryd.func26 (by kernel_rfl) rfl #[.slice Ao11 t279.length co11, .int .i64 a1] rfl (by (try simp only [List.map_toArray, List.map_cons, List.map_nil]); first | done | rfl | (simp only [List.length_drop, List.length_take]; rfl)) ?_; (with_reducible refine (spec_ErrorOf.calls k _ _ t279 a1 t282 t283 t284 t285 _ ?side1 ?side2 A6.out).mono ?_); (case side1 => repeat (first | exact (Kd.R_reads' HO281.out).2.2 | (with_reducible refine Kd.C_alloc ?_ _) | (with_reducible refine Kd.C_drewN ?_ _) | (with_reducible refine Kd.C_drew ?_))); (case side2 => exact (Kd.R_reads' HO281.out).2.1); rintro e w12 ⟨rfl, hb⟩; refine ⟨_, rfl, ?_⟩; have n0_ := Aside0.mk (Kd.R_below (by (with_reducible repeat (first | apply Kd.R_alloc | apply Kd.R_drewN | apply Kd.R_drew)); exact HO281.out) hb); have n1_ := Aside0.mk (below_step (by repeat (first | (with_reducible first | exact HB.out | apply below_alloc | apply pw_below_drewN | apply below_drew1) | exact HB.out)) hb); clear HO281; clear HB; have HO281 := n0_; have HB := n1_; clear n0_ n1_; (try clear hb); (try clear hb2); (try clear hk); (try clear hi)) | ((with_reducible refine gate_dst (N := 6) rfl ?_); refine box_event ?hg (N := 6) ?hd (cs := #[.int .i64 0, .int .i64 0, .int .i64 0]) (t := 25) ?hr ?_; (case hd => rfl); (case hg => rfl); (case hr => first | (go_simp; done) | (go_simp; rfl)); intro gb286 hg w13 hbox hb; have n0_ := Aside0.mk (Kd.R_below (by (with_reducible repeat (first | apply Kd.R_alloc | apply Kd.R_drewN | apply Kd.R_drew)); exact HO281.out) hb); have n1_ := Aside0.mk (below_step (by repeat (first | (with_reducible first | exact HB.out | apply below_alloc | apply pw_below_drewN | apply below_drew1) | exact HB.out)) hb); have n2_ := Aside0.mk (hbox); have n3_ := Aside0.mk ((by rw [hg]; exact (below_size (by repeat (first | (with_reducible first | exact HB.out | apply below_alloc | apply pw_below_drewN | apply below_drew1) | exact HB.out))) : w.heap.size ≤ gb286)); have n4_ := Aside0.mk ((by rw [hg]; exact (below_size (by repeat (first | (with_reducible first | exact HB.out | apply below_alloc | apply pw_below_drewN | apply below_drew1) | exact HB.out))) : w.heap.size ≤ gb286)); clear HO281; clear HB; have HO281 := n0_; have HB := n1_; have BK286 := n2_; have GW286 := n3_; have GE286 := n4_; clear n0_ n1_ n2_ n3_ n4_; clear hb hbox hg; have hcz14_0 : w13.cell? ⟨gb286, 0, none⟩ = some (.int .i64 0) := (blk_cell BK286.out 0).trans rfl; have hcz14_1 : w13.cell? ⟨gb286, 1, none⟩ = some (.int .i64 0) := (blk_cell BK286.out 1).trans rfl; have hcz14_2 : w13.cell? ⟨gb286, 2, none⟩ = some (.int .i64 0) := (blk_cell BK286.out 2).trans rfl; have hfz14_0 := blk_frozen BK286.out 0; have hfz14_1 := blk_frozen BK286.out 1; have hfz14_2 := blk_frozen BK286.out 2) | ((with_reducible refine gate_callee (f := 19) rfl ?_); refine goesL_ (some 24) rfl rfl Tryd.func19 (by kernel_rfl) rfl #[.slice A0 l0.length c0] rfl (by (try simp only [List.map_toArray, List.map_cons, List.map_nil]); first | done | rfl | (simp only [List.length_drop, List.length_take]; rfl)) ?_; (with_reducible refine (laws_toLegS.calls k _ _ l0 t287 _ ?side1 ?side2 A7.out).mono ?_); (case side1 => exact Kd.C_below HR0.out (by repeat (first | (with_reducible first | exact HB.out | apply below_alloc | apply pw_below_drewN | apply below_drew1 | refine below_set ?_ GE286.out) | exact HB.out))); (case side2 => exact HC0.out); rintro e w15 ⟨v288, rfl, ho0, hb⟩; refine ⟨_, rfl, ?_⟩; have n0_ := Aside0.mk (Kd.R_elder' (by (with_reducible repeat (first | apply Kd.R_alloc | apply Kd.R_drewN | apply Kd.R_drew)); exact (Kd.R_mono (Kd.R_far (p := ⟨gb286, 2, none⟩) (Kd.R_far (p := ⟨gb286, 1, none⟩) (Kd.R_far (p := ⟨gb286, 0, none⟩) (Kd.R_types HO281.out BK286.out (by decide)) (fun _ hk => hk.2) (.int .i64 t282)) (fun _ hk => hk.2) (.int .i64 t283)) (fun _ hk => hk.2) (.int .i64 t284)) (fun _ h_ => h_.1))) (Kd.R_base ho0) hb); have n1_ := Aside0.mk (Kd.R_lower (Kd.R_new' ho0 (Kd.R_lt (by (with_reducible repeat (first | apply Kd.R_alloc | apply Kd.R_drewN | apply Kd.R_drew)); exact (Kd.R_mono (Kd.R_far (p := ⟨gb286, 2, none⟩) (Kd.R_far (p := ⟨gb286, 1, none⟩) (Kd.R_far (p := ⟨gb286, 0, none⟩) (Kd.R_types HO281.out BK286.out (by decide)) (fun _ hk => hk.2) (.int .i64 t282)) (fun _ hk => hk.2) (.int .i64 t283)) (fun _ hk => hk.2) (.int .i64 t284)) (fun _ h_ => h_.1))))) (below_size (by repeat (first | (with_reducible first | exact HB.out | apply below_alloc | apply pw_below_drewN | apply below_drew1 | refine below_set ?_ GE286.out) | exact HB.out)))); have n2_ := Aside0.mk (blk_below (g := gb286) (o := .cells #[.int .i64 t282, .int .i64 t283, .int .i64 t284] 25 (0, 0)) (by (with_reducible repeat (first | refine blk_drewN ?_ _ | refine blk_drew ?_ | refine blk_alloc ?_ _)); refine blk_put (cs := #[.int .i64 t282, .int .i64 t283, .int .i64 0]) ?_ 2 _ rfl; (with_reducible repeat (first | refine blk_drewN ?_ _ | refine blk_drew ?_ | refine blk_alloc ?_ _)); refine blk_put (cs := #[.int .i64 t282, .int .i64 0, .int .i64 0]) ?_ 1 _ rfl; (with_reducible repeat (first | refine blk_drewN ?_ _ | refine blk_drew ?_ | refine blk_alloc ?_ _)); refine blk_put (cs := #[.int .i64 0, .int .i64 0, .int .i64 0]) ?_ 0 _ rfl; (with_reducible repeat (first | refine blk_drewN ?_ _ | refine blk_drew ?_ | refine blk_alloc ?_ _)); exact BK286.out) hb); have n3_ := Aside0.mk (below_step (by repeat (first | (with_reducible first | exact HB.out | apply below_alloc | apply pw_below_drewN | apply below_drew1 | refine below_set ?_ GE286.out) | exact HB.out)) hb); clear HO281; clear BK286; clear HB; have HO281 := n0_; have HO289 := n1_; have BK286 := n2_; have HB := n3_; clear n0_ n1_ n2_ n3_; (try clear hb); (try clear hb2); (try clear hk); (try clear hi); (try clear ho0); obtain ⟨Ao16, co16, eo16⟩ := Kd.R_slice HO289.out; subst eo16) | ((with_reducible refine gate_callee (f := 27) rfl ?_); refine goesL_ (some 28) rfl rfl Tryd.func27 (by kernel_rfl) rfl #[.slice Ao16 t287.length co16, .int .i64 a1] rfl (by (try simp only [List.map_toArray, List.map_cons, List.map_nil]); first | done | rfl | (simp only [List.length_drop, List.length_take]; rfl)) ?_; (with_reducible refine (impl_ErrorOf.calls k _ _ t287 a1 t290 t291 t292 t293 _ ?sideT ?side1 ?side2 A8.out).mono ?_); (case sideT => first | exact HT.out | (refine Tab.drawn HT.out ?_; (repeat (first | exact Drawn0.refl _ | apply Drawn0.step)); done) | (refine Tab.below HT.out ?_; repeat (first | (with_reducible first | exact HB.out | apply below_alloc | apply pw_below_drewN | apply below_drew1 | refine below_set ?_ GE286.out | refine below_set ?_ GE294.out) | exact HB.out))); (case side1 => repeat (first | exact (Kd.R_reads' HO289.out).2.2 | (with_reducible refine Kd.C_alloc ?_ _) | (with_reducible refine Kd.C_drewN ?_ _) | (with_reducible refine Kd.C_drew ?_))); (case side2 => exact (Kd.R_reads' HO289.out).2.1); rintro e w17 ⟨rfl, hb⟩; refine ⟨_, rfl, ?_⟩; have n0_ := Aside0.mk (Kd.R_below (by (with_reducible repeat (first | apply Kd.R_alloc | apply Kd.R_drewN | apply Kd.R_drew)); exact HO281.out) hb); have n1_ := Aside0.mk (Kd.R_below (by (with_reducible repeat (first | apply Kd.R_alloc | apply Kd.R_drewN | apply Kd.R_drew)); exact HO289.out) hb); have n2_ := Aside0.mk (blk_below (g := gb286) (o := .cells #[.int .i64 t282, .int .i64 t283, .int .i64 t284] 25 (0, 0)) (by (with_reducible repeat (first | refine blk_drewN ?_ _ | refine blk_drew ?_ | refine blk_alloc ?_ _)); exact BK286.out) hb); have n3_ := Aside0.mk (below_step (by repeat (first | (with_reducible first | exact HB.out | apply below_alloc | apply pw_below_drewN | apply below_drew1 | refine below_set ?_ GE286.out) | exact HB.out)) hb); clear HO281; clear HO289; clear BK286; clear HB; have HO281 := n0_; have HO289 := n1_; have BK286 := n2_; have HB := n3_; clear n0_ n1_ n2_ n3_; (try clear hb); (try clear hb2); (try clear hk); (try clear hi)) | ((with_reducible refine gate_dst (N := 9) rfl ?_); refine box_event ?hg (N := 9) ?hd (cs := #[.int .i64 0, .int .i64 0, .int .i64 0]) (t := 25) ?hr ?_; (case hd => rfl); (case hg => rfl); (case hr => first | (go_simp; done) | (go_simp; rfl)); intro gb294 hg w18 hbox hb; have n0_ := Aside0.mk (Kd.R_below (by (with_reducible repeat (first | apply Kd.R_alloc | apply Kd.R_drewN | apply Kd.R_drew)); exact HO281.out) hb); have n1_ := Aside0.mk (Kd.R_below (by (with_reducible repeat (first | apply Kd.R_alloc | apply Kd.R_drewN | apply Kd.R_drew)); exact HO289.out) hb); have n2_ := Aside0.mk (blk_below (g := gb286) (o := .cells #[.int .i64 t282, .int .i64 t283, .int .i64 t284] 25 (0, 0)) (by (with_reducible repeat (first | refine blk_drewN ?_ _ | refine blk_drew ?_ | refine blk_alloc ?_ _)); exact BK286.out) hb); have n3_ := Aside0.mk (below_step (by repeat (first | (with_reducible first | exact HB.out | apply below_alloc | apply pw_below_drewN | apply below_drew1 | refine below_set ?_ GE286.out) | exact HB.out)) hb); have n4_ := Aside0.mk (hbox); have n5_ := Aside0.mk ((by rw [hg]; exact (below_size (by repeat (first | (with_reducible first | exact HB.out | apply below_alloc | apply pw_below_drewN | apply below_drew1 | refine below_set ?_ GE286.out) | exact HB.out))) : w.heap.size ≤ gb294)); have n6_ := Aside0.mk ((by rw [hg]; exact (below_size (by repeat (first | (with_reducible first | exact HB.out | apply below_alloc | apply pw_below_drewN | apply below_drew1 | refine below_set ?_ GE286.out) | exact HB.out))) : w.heap.size ≤ gb294)); have n7_ := Aside0.mk ((by rw [hg]; exact Nat.ne_of_lt (blk_lt (g := gb286) (o := .cells #[.int .i64 t282, .int .i64 t283, .int .i64 t284] 25 (0, 0)) (by (with_reducible repeat (first | refine blk_drewN ?_ _ | refine blk_drew ?_ | refine blk_alloc ?_ _)); exact BK286.out)) : gb286 ≠ gb294)); have n8_ := Aside0.mk ((by rw [hg]; exact Nat.ne_of_gt (blk_lt (g := gb286) (o := .cells #[.int .i64 t282, .int .i64 t283, .int .i64 t284] 25 (0, 0)) (by (with_reducible repeat (first | refine blk_drewN ?_ _ | refine blk_drew ?_ | refine blk_alloc ?_ _)); exact BK286.out)) : gb294 ≠ gb286)); clear HO281; clear HO289; clear BK286; clear HB; have HO281 := n0_; have HO289 := n1_; have BK286 := n2_; have HB := n3_; have BK294 := n4_; have GW294 := n5_; have GE294 := n6_; have NB286_294 := n7_; have NB294_286 := n8_; clear n0_ n1_ n2_ n3_ n4_ n5_ n6_ n7_ n8_; clear hb hbox hg; have hnb19 := NB294_286.out; have hnc19 := NB286_294.out; have hcz20_0 : w18.cell? ⟨gb294, 0, none⟩ = some (.int .i64 0) := (blk_cell BK294.out 0).trans rfl; have hcz20_1 : w18.cell? ⟨gb294, 1, none⟩ = some (.int .i64 0) := (blk_cell BK294.out 1).trans rfl; have hcz20_2 : w18.cell? ⟨gb294, 2, none⟩ = some (.int .i64 0) := (blk_cell BK294.out 2).trans rfl; have hfz20_0 := blk_frozen BK294.out 0; have hfz20_1 := blk_frozen BK294.out 1; have hfz20_2 := blk_frozen BK294.out 2))
    (try simp only [Act.put, List.setIfInBounds_toArray, List.set_cons_zero, List.set_cons_succ])
    go_cut [39] (fun v39 wc => ∃ (kq : Nat) (x39_8 : Bool), v39 = .bool x39_8 ∧ Aside0 (laws_FnExactErrorOf.j0 kq l0 t287 x39_8 = some r) ∧ Aside0 (kq ≤ k) ∧ Aside0 (Kd.R k28 28 wc w.heap.size (fun _ => True) (.slice Ao16 t287.length co16) t287) ∧ Aside0 (wc.heap[gb286]? = some (.cells #[.int .i64 t282, .int .i64 t283, .int .i64 t284] 25 (0, 0))) ∧ Aside0 (wc.heap[gb294]? = some (.cells #[.int .i64 t290, .int .i64 t291, .int .i64 t292] 25 (0, 0))) ∧ Aside0 (Below w.heap.size w wc))
    case first =>
      have H := HC9.out
      clear HC9
      replace H := Option.bind_eq_some_iff.mp H
      obtain ⟨t295, A210, H⟩ := H
      replace H : (if t295 = true then (laws_FnExactErrorOf.j0 k l0 t287 (t293 != t285)) else (laws_FnExactErrorOf.j0 k l0 t287 true)) = some r := H
      have A21 := Aside0.mk A210
      clear A210
      by_cases c22 : t295 = true
      · subst c22
        have H1 : (laws_FnExactErrorOf.j0 k l0 t287 (t293 != t285)) = some r := by rw [if_pos rfl] at H; exact H
        clear H
        have H := H1
        clear H1
        have H' := Aside0.mk H
        clear H
        have hnb23 := NB294_286.out
        have hnc23 := NB286_294.out
        have hcz24_0 : w18.cell? ⟨gb294, 0, none⟩ = some (.int .i64 0) := (blk_cell BK294.out 0).trans rfl
        have hcz24_1 : w18.cell? ⟨gb294, 1, none⟩ = some (.int .i64 0) := (blk_cell BK294.out 1).trans rfl
        have hcz24_2 : w18.cell? ⟨gb294, 2, none⟩ = some (.int .i64 0) := (blk_cell BK294.out 2).trans rfl
        have hfz24_0 := blk_frozen BK294.out 0
        have hfz24_1 := blk_frozen BK294.out 1
        have hfz24_2 := blk_frozen BK294.out 2
        have hcz25_0 : w18.cell? ⟨gb286, 0, none⟩ = some (.int .i64 t282) := (blk_cell BK286.out 0).trans rfl
        have hcz25_1 : w18.cell? ⟨gb286, 1, none⟩ = some (.int .i64 t283) := (blk_cell BK286.out 1).trans rfl
        have hcz25_2 : w18.cell? ⟨gb286, 2, none⟩ = some (.int .i64 t284) := (blk_cell BK286.out 2).trans rfl
        have hfz25_0 := blk_frozen BK286.out 0
        have hfz25_1 := blk_frozen BK286.out 1
        have hfz25_2 := blk_frozen BK286.out 2
        go_wp2_with (first | ((with_reducible refine gate_callee (f := 16) rfl ?_); refine goesL_ (some 33) rfl rfl Tryd.func16 (by kernel_rfl) rfl #[.agg #[.int .i64 t290, .int .i64 t291, .int .i64 t292], .agg #[.int .i64 t282, .int .i64 t283, .int .i64 t284]] rfl (by (try simp only [List.map_toArray, List.map_cons, List.map_nil]); first | done | rfl | (simp only [List.length_drop, List.length_take]; rfl)) ?_; (with_reducible refine (laws_eqShift.calls t290 t291 t292 t282 t283 t284 true _ A21.out).mono ?_); rintro e w26 ⟨rfl, hb⟩; refine ⟨_, rfl, ?_⟩; have n0_ := Aside0.mk (Kd.R_below (by (with_reducible repeat (first | apply Kd.R_alloc | apply Kd.R_drewN | apply Kd.R_drew)); exact (Kd.R_mono (Kd.R_far (p := ⟨gb294, 2, none⟩) (Kd.R_far (p := ⟨gb294, 1, none⟩) (Kd.R_far (p := ⟨gb294, 0, none⟩) (Kd.R_types HO281.out BK294.out (by decide)) (fun _ hk => hk.2) (.int .i64 t290)) (fun _ hk => hk.2) (.int .i64 t291)) (fun _ hk => hk.2) (.int .i64 t292)) (fun _ h_ => h_.1))) hb); have n1_ := Aside0.mk (Kd.R_below (by (with_reducible repeat (first | apply Kd.R_alloc | apply Kd.R_drewN | apply Kd.R_drew)); exact (Kd.R_mono (Kd.R_far (p := ⟨gb294, 2, none⟩) (Kd.R_far (p := ⟨gb294, 1, none⟩) (Kd.R_far (p := ⟨gb294, 0, none⟩) (Kd.R_types HO289.out BK294.out (by decide)) (fun _ hk => hk.2) (.int .i64 t290)) (fun _ hk => hk.2) (.int .i64 t291)) (fun _ hk => hk.2) (.int .i64 t292)) (fun _ h_ => h_.1))) hb); have n2_ := Aside0.mk (blk_below (g := gb286) (o := .cells #[.int .i64 t282, .int .i64 t283, .int .i64 t284] 25 (0, 0)) (by (with_reducible repeat (first | refine blk_drewN ?_ _ | refine blk_drew ?_ | refine blk_alloc ?_ _)); refine blk_far ?_ NB286_294.out _; (with_reducible repeat (first | refine blk_drewN ?_ _ | refine blk_drew ?_ | refine blk_alloc ?_ _)); refine blk_far ?_ NB286_294.out _; (with_reducible repeat (first | refine blk_drewN ?_ _ | refine blk_drew ?_ | refine blk_alloc ?_ _)); refine blk_far ?_ NB286_294.out _; (with_reducible repeat (first | refine blk_drewN ?_ _ | refine blk_drew ?_ | refine blk_alloc ?_ _)); exact BK286.out) hb); have n3_ := Aside0.mk (blk_below (g := gb294) (o := .cells #[.int .i64 t290, .int .i64 t291, .int .i64 t292] 25 (0, 0)) (by (with_reducible repeat (first | refine blk_drewN ?_ _ | refine blk_drew ?_ | refine blk_alloc ?_ _)); refine blk_put (cs := #[.int .i64 t290, .int .i64 t291, .int .i64 0]) ?_ 2 _ rfl; (with_reducible repeat (first | refine blk_drewN ?_ _ | refine blk_drew ?_ | refine blk_alloc ?_ _)); refine blk_put (cs := #[.int .i64 t290, .int .i64 0, .int .i64 0]) ?_ 1 _ rfl; (with_reducible repeat (first | refine blk_drewN ?_ _ | refine blk_drew ?_ | refine blk_alloc ?_ _)); refine blk_put (cs := #[.int .i64 0, .int .i64 0, .int .i64 0]) ?_ 0 _ rfl; (with_reducible repeat (first | refine blk_drewN ?_ _ | refine blk_drew ?_ | refine blk_alloc ?_ _)); exact BK294.out) hb); have n4_ := Aside0.mk (below_step (by repeat (first | (with_reducible first | exact HB.out | apply below_alloc | apply pw_below_drewN | apply below_drew1 | refine below_set ?_ GE286.out | refine below_set ?_ GE294.out) | exact HB.out)) hb); clear HO281; clear HO289; clear BK286; clear BK294; clear HB; have HO281 := n0_; have HO289 := n1_; have BK286 := n2_; have BK294 := n3_; have HB := n4_; clear n0_ n1_ n2_ n3_ n4_; (try clear hb); (try clear hb2); (try clear hk); (try clear hi)))
        go_meet
        case rel => exact ⟨_, ((t293 != t285)), (by first | rfl | (simp; done) | (simp [*]; done)), H', ⟨by first | omega | exact Nat.le_refl _⟩, ⟨by (with_reducible repeat (first | apply Kd.R_alloc | apply Kd.R_drewN | apply Kd.R_drew)); exact Kd.R_mono HO289.out (fun _ hk => trivial)⟩, ⟨by (with_reducible repeat (first | refine blk_drewN ?_ _ | refine blk_drew ?_ | refine blk_alloc ?_ _)); exact BK286.out⟩, ⟨by (with_reducible repeat (first | refine blk_drewN ?_ _ | refine blk_drew ?_ | refine blk_alloc ?_ _)); exact BK294.out⟩, ⟨by repeat (first | (with_reducible first | exact HB.out | apply below_alloc | apply pw_below_drewN | apply below_drew1 | refine below_set ?_ GE286.out | refine below_set ?_ GE294.out) | exact HB.out)⟩⟩
      · replace c22 := Bool.eq_false_iff.mpr c22
        subst c22
        have H1 : (laws_FnExactErrorOf.j0 k l0 t287 true) = some r := by rw [if_neg (show ¬ (false = true) by decide)] at H; exact H
        clear H
        have H := H1
        clear H1
        have H' := Aside0.mk H
        clear H
        have hnb27 := NB294_286.out
        have hnc27 := NB286_294.out
        have hcz28_0 : w18.cell? ⟨gb294, 0, none⟩ = some (.int .i64 0) := (blk_cell BK294.out 0).trans rfl
        have hcz28_1 : w18.cell? ⟨gb294, 1, none⟩ = some (.int .i64 0) := (blk_cell BK294.out 1).trans rfl
        have hcz28_2 : w18.cell? ⟨gb294, 2, none⟩ = some (.int .i64 0) := (blk_cell BK294.out 2).trans rfl
        have hfz28_0 := blk_frozen BK294.out 0
        have hfz28_1 := blk_frozen BK294.out 1
        have hfz28_2 := blk_frozen BK294.out 2
        have hcz29_0 : w18.cell? ⟨gb286, 0, none⟩ = some (.int .i64 t282) := (blk_cell BK286.out 0).trans rfl
        have hcz29_1 : w18.cell? ⟨gb286, 1, none⟩ = some (.int .i64 t283) := (blk_cell BK286.out 1).trans rfl
        have hcz29_2 : w18.cell? ⟨gb286, 2, none⟩ = some (.int .i64 t284) := (blk_cell BK286.out 2).trans rfl
        have hfz29_0 := blk_frozen BK286.out 0
        have hfz29_1 := blk_frozen BK286.out 1
        have hfz29_2 := blk_frozen BK286.out 2
        go_wp2_with (first | ((with_reducible refine gate_callee (f := 16) rfl ?_); refine goesL_ (some 33) rfl rfl Tryd.func16 (by kernel_rfl) rfl #[.agg #[.int .i64 t290, .int .i64 t291, .int .i64 t292], .agg #[.int .i64 t282, .int .i64 t283, .int .i64 t284]] rfl (by (try simp only [List.map_toArray, List.map_cons, List.map_nil]); first | done | rfl | (simp only [List.length_drop, List.length_take]; rfl)) ?_; (with_reducible refine (laws_eqShift.calls t290 t291 t292 t282 t283 t284 false _ A21.out).mono ?_); rintro e w30 ⟨rfl, hb⟩; refine ⟨_, rfl, ?_⟩; have n0_ := Aside0.mk (Kd.R_below (by (with_reducible repeat (first | apply Kd.R_alloc | apply Kd.R_drewN | apply Kd.R_drew)); exact (Kd.R_mono (Kd.R_far (p := ⟨gb294, 2, none⟩) (Kd.R_far (p := ⟨gb294, 1, none⟩) (Kd.R_far (p := ⟨gb294, 0, none⟩) (Kd.R_types HO281.out BK294.out (by decide)) (fun _ hk => hk.2) (.int .i64 t290)) (fun _ hk => hk.2) (.int .i64 t291)) (fun _ hk => hk.2) (.int .i64 t292)) (fun _ h_ => h_.1))) hb); have n1_ := Aside0.mk (Kd.R_below (by (with_reducible repeat (first | apply Kd.R_alloc | apply Kd.R_drewN | apply Kd.R_drew)); exact (Kd.R_mono (Kd.R_far (p := ⟨gb294, 2, none⟩) (Kd.R_far (p := ⟨gb294, 1, none⟩) (Kd.R_far (p := ⟨gb294, 0, none⟩) (Kd.R_types HO289.out BK294.out (by decide)) (fun _ hk => hk.2) (.int .i64 t290)) (fun _ hk => hk.2) (.int .i64 t291)) (fun _ hk => hk.2) (.int .i64 t292)) (fun _ h_ => h_.1))) hb); have n2_ := Aside0.mk (blk_below (g := gb286) (o := .cells #[.int .i64 t282, .int .i64 t283, .int .i64 t284] 25 (0, 0)) (by (with_reducible repeat (first | refine blk_drewN ?_ _ | refine blk_drew ?_ | refine blk_alloc ?_ _)); refine blk_far ?_ NB286_294.out _; (with_reducible repeat (first | refine blk_drewN ?_ _ | refine blk_drew ?_ | refine blk_alloc ?_ _)); refine blk_far ?_ NB286_294.out _; (with_reducible repeat (first | refine blk_drewN ?_ _ | refine blk_drew ?_ | refine blk_alloc ?_ _)); refine blk_far ?_ NB286_294.out _; (with_reducible repeat (first | refine blk_drewN ?_ _ | refine blk_drew ?_ | refine blk_alloc ?_ _)); exact BK286.out) hb); have n3_ := Aside0.mk (blk_below (g := gb294) (o := .cells #[.int .i64 t290, .int .i64 t291, .int .i64 t292] 25 (0, 0)) (by (with_reducible repeat (first | refine blk_drewN ?_ _ | refine blk_drew ?_ | refine blk_alloc ?_ _)); refine blk_put (cs := #[.int .i64 t290, .int .i64 t291, .int .i64 0]) ?_ 2 _ rfl; (with_reducible repeat (first | refine blk_drewN ?_ _ | refine blk_drew ?_ | refine blk_alloc ?_ _)); refine blk_put (cs := #[.int .i64 t290, .int .i64 0, .int .i64 0]) ?_ 1 _ rfl; (with_reducible repeat (first | refine blk_drewN ?_ _ | refine blk_drew ?_ | refine blk_alloc ?_ _)); refine blk_put (cs := #[.int .i64 0, .int .i64 0, .int .i64 0]) ?_ 0 _ rfl; (with_reducible repeat (first | refine blk_drewN ?_ _ | refine blk_drew ?_ | refine blk_alloc ?_ _)); exact BK294.out) hb); have n4_ := Aside0.mk (below_step (by repeat (first | (with_reducible first | exact HB.out | apply below_alloc | apply pw_below_drewN | apply below_drew1 | refine below_set ?_ GE286.out | refine below_set ?_ GE294.out) | exact HB.out)) hb); clear HO281; clear HO289; clear BK286; clear BK294; clear HB; have HO281 := n0_; have HO289 := n1_; have BK286 := n2_; have BK294 := n3_; have HB := n4_; clear n0_ n1_ n2_ n3_ n4_; (try clear hb); (try clear hb2); (try clear hk); (try clear hi)))
        go_meet
        case rel => exact ⟨_, (true), (by first | rfl | (simp; done) | (simp [*]; done)), H', ⟨by first | omega | exact Nat.le_refl _⟩, ⟨by (with_reducible repeat (first | apply Kd.R_alloc | apply Kd.R_drewN | apply Kd.R_drew)); exact Kd.R_mono HO289.out (fun _ hk => trivial)⟩, ⟨by (with_reducible repeat (first | refine blk_drewN ?_ _ | refine blk_drew ?_ | refine blk_alloc ?_ _)); exact BK286.out⟩, ⟨by (with_reducible repeat (first | refine blk_drewN ?_ _ | refine blk_drew ?_ | refine blk_alloc ?_ _)); exact BK294.out⟩, ⟨by repeat (first | (with_reducible first | exact HB.out | apply below_alloc | apply pw_below_drewN | apply below_drew1 | refine below_set ?_ GE286.out | refine below_set ?_ GE294.out) | exact HB.out)⟩⟩
    case rest =>
      clear HC9
      try clear c1
      try clear c2
      try clear p2
      try clear c4
      try clear c4b0
      try clear c7
      try clear c16
      try clear c17
      try clear c19
      try clear c22
      try clear c23
      try clear c26
      try clear c27
      try clear hcz14_0
      try clear hcz14_1
      try clear hcz14_2
      try clear hcz20_0
      try clear hcz20_1
      try clear hcz20_2
      try clear hcz24_0
      try clear hcz24_1
      try clear hcz24_2
      try clear hcz25_0
      try clear hcz25_1
      try clear hcz25_2
      try clear hcz28_0
      try clear hcz28_1
      try clear hcz28_2
      try clear hcz29_0
      try clear hcz29_1
      try clear hcz29_2
      try clear hfz14_0
      try clear hfz14_1
      try clear hfz14_2
      try clear hfz20_0
      try clear hfz20_1
      try clear hfz20_2
      try clear hfz24_0
      try clear hfz24_1
      try clear hfz24_2
      try clear hfz25_0
      try clear hfz25_1
      try clear hfz25_2
      try clear hfz28_0
      try clear hfz28_1
      try clear hfz28_2
      try clear hfz29_0
      try clear hfz29_1
      try clear hfz29_2
      obtain ⟨kq, x39_8, rfl, HA, HJ8, HO_8, BK286, BK294, HB⟩ := hcut
      cases kq with
      | zero => exact absurd HA.out (by simp [laws_FnExactErrorOf.j0])
      | succ kj8 =>
        have H := HA.out
        clear HA
        simp only [laws_FnExactErrorOf.j0] at H
        by_cases c31 : x39_8 = true
        · subst c31
          have H1 : (some false) = some r := by rw [if_pos rfl] at H; exact H
          clear H
          have H := H1
          clear H1
          obtain rfl := Option.some.inj H
          go_wp2
          go_ret
          exact ⟨by first | rfl | (simp [errW_none, errW_some] <;> rfl) | (simp [*, errW_none, errW_some] <;> rfl), by repeat (first | (with_reducible first | exact HB.out | apply below_alloc | apply pw_below_drewN | apply below_drew1 | refine below_set ?_ GE286.out | refine below_set ?_ GE294.out) | exact HB.out)⟩
        · replace c31 := Bool.eq_false_iff.mpr c31
          subst c31
          have H1 : ((laws_toLegS.f kj8 l0).bind fun t296 => ((laws_eqLegS.f kj8 t287 t296).bind fun t299 => (if t299 = true then (some true) else (some false)))) = some r := by rw [if_neg (show ¬ (false = true) by decide)] at H; exact H
          clear H
          have H := H1
          clear H1
          replace H := Option.bind_eq_some_iff.mp H
          obtain ⟨t296, A320, H⟩ := H
          replace H : ((laws_eqLegS.f kj8 t287 t296).bind fun t299 => (if t299 = true then (some true) else (some false))) = some r := H
          have A32 := Aside0.mk A320
          clear A320
          replace H := Option.bind_eq_some_iff.mp H
          obtain ⟨t299, A330, H⟩ := H
          replace H : (if t299 = true then (some true) else (some false)) = some r := H
          have A33 := Aside0.mk A330
          clear A330
          by_cases c34 : t299 = true
          · subst c34
            have H1 : (some true) = some r := by rw [if_pos rfl] at H; exact H
            clear H
            have H := H1
            clear H1
            obtain rfl := Option.some.inj H
            go_wp2_with (first | ((with_reducible refine gate_callee (f := 19) rfl ?_); refine goesL_ (some 42) rfl rfl Tryd.func19 (by kernel_rfl) rfl #[.slice A0 l0.length c0] rfl (by (try simp only [List.map_toArray, List.map_cons, List.map_nil]); first | done | rfl | (simp only [List.length_drop, List.length_take]; rfl)) ?_; (with_reducible refine (laws_toLegS.calls kj8 _ _ l0 t296 _ ?side1 ?side2 A32.out).mono ?_); (case side1 => repeat (first | exact (Kd.C_below HR0.out HB.out) | (with_reducible refine Kd.C_alloc ?_ _) | (with_reducible refine Kd.C_drewN ?_ _) | (with_reducible refine Kd.C_drew ?_))); (case side2 => exact HC0.out); rintro e w35 ⟨v297, rfl, ho0, hb⟩; refine ⟨_, rfl, ?_⟩; have n0_ := Aside0.mk (Kd.R_elder' (by (with_reducible repeat (first | apply Kd.R_alloc | apply Kd.R_drewN | apply Kd.R_drew)); exact HO_8.out) (Kd.R_base ho0) hb); have n1_ := Aside0.mk (Kd.R_lower (Kd.R_new' ho0 (Kd.R_lt (by (with_reducible repeat (first | apply Kd.R_alloc | apply Kd.R_drewN | apply Kd.R_drew)); exact HO_8.out))) (below_size (by repeat (first | (with_reducible first | exact HB.out | apply below_alloc | apply pw_below_drewN | apply below_drew1 | refine below_set ?_ GE286.out | refine below_set ?_ GE294.out) | exact HB.out)))); have n2_ := Aside0.mk (blk_below (g := gb286) (o := .cells #[.int .i64 t282, .int .i64 t283, .int .i64 t284] 25 (0, 0)) (by (with_reducible repeat (first | refine blk_drewN ?_ _ | refine blk_drew ?_ | refine blk_alloc ?_ _)); exact BK286.out) hb); have n3_ := Aside0.mk (blk_below (g := gb294) (o := .cells #[.int .i64 t290, .int .i64 t291, .int .i64 t292] 25 (0, 0)) (by (with_reducible repeat (first | refine blk_drewN ?_ _ | refine blk_drew ?_ | refine blk_alloc ?_ _)); exact BK294.out) hb); have n4_ := Aside0.mk (below_step (by repeat (first | (with_reducible first | exact HB.out | apply below_alloc | apply pw_below_drewN | apply below_drew1 | refine below_set ?_ GE286.out | refine below_set ?_ GE294.out) | exact HB.out)) hb); clear HO_8; clear BK286; clear BK294; clear HB; have HO_8 := n0_; have HO298 := n1_; have BK286 := n2_; have BK294 := n3_; have HB := n4_; clear n0_ n1_ n2_ n3_ n4_; (try clear hb); (try clear hb2); (try clear hk); (try clear hi); (try clear ho0); obtain ⟨Ao36, co36, eo36⟩ := Kd.R_slice HO298.out; subst eo36) | ((with_reducible refine gate_callee (f := 21) rfl ?_); refine goesL_ (some 43) rfl rfl Tryd.func21 (by kernel_rfl) rfl #[.slice Ao16 t287.length co16, .slice Ao36 t296.length co36] rfl (by (try simp only [List.map_toArray, List.map_cons, List.map_nil]); first | done | rfl | (simp only [List.length_drop, List.length_take]; rfl)) ?_; (with_reducible refine (laws_eqLegS.calls kj8 _ _ t287 _ _ t296 true _ ?side1 ?side2 ?side3 ?side4 A33.out).mono ?_); (case side1 => repeat (first | exact (Kd.R_reads' HO_8.out).2.2 | (with_reducible refine Kd.C_alloc ?_ _) | (with_reducible refine Kd.C_drewN ?_ _) | (with_reducible refine Kd.C_drew ?_))); (case side2 => exact (Kd.R_reads' HO_8.out).2.1); (case side3 => repeat (first | exact (Kd.R_reads' HO298.out).2.2 | (with_reducible refine Kd.C_alloc ?_ _) | (with_reducible refine Kd.C_drewN ?_ _) | (with_reducible refine Kd.C_drew ?_))); (case side4 => exact (Kd.R_reads' HO298.out).2.1); rintro e w37 ⟨rfl, hb⟩; refine ⟨_, rfl, ?_⟩; have n0_ := Aside0.mk (Kd.R_below (by (with_reducible repeat (first | apply Kd.R_alloc | apply Kd.R_drewN | apply Kd.R_drew)); exact HO_8.out) hb); have n1_ := Aside0.mk (Kd.R_below (by (with_reducible repeat (first | apply Kd.R_alloc | apply Kd.R_drewN | apply Kd.R_drew)); exact HO298.out) hb); have n2_ := Aside0.mk (blk_below (g := gb286) (o := .cells #[.int .i64 t282, .int .i64 t283, .int .i64 t284] 25 (0, 0)) (by (with_reducible repeat (first | refine blk_drewN ?_ _ | refine blk_drew ?_ | refine blk_alloc ?_ _)); exact BK286.out) hb); have n3_ := Aside0.mk (blk_below (g := gb294) (o := .cells #[.int .i64 t290, .int .i64 t291, .int .i64 t292] 25 (0, 0)) (by (with_reducible repeat (first | refine blk_drewN ?_ _ | refine blk_drew ?_ | refine blk_alloc ?_ _)); exact BK294.out) hb); have n4_ := Aside0.mk (below_step (by repeat (first | (with_reducible first | exact HB.out | apply below_alloc | apply pw_below_drewN | apply below_drew1 | refine below_set ?_ GE286.out | refine below_set ?_ GE294.out) | exact HB.out)) hb); clear HO_8; clear HO298; clear BK286; clear BK294; clear HB; have HO_8 := n0_; have HO298 := n1_; have BK286 := n2_; have BK294 := n3_; have HB := n4_; clear n0_ n1_ n2_ n3_ n4_; (try clear hb); (try clear hb2); (try clear hk); (try clear hi)))
            go_ret
            exact ⟨by first | rfl | (simp [errW_none, errW_some] <;> rfl) | (simp [*, errW_none, errW_some] <;> rfl), by repeat (first | (with_reducible first | exact HB.out | apply below_alloc | apply pw_below_drewN | apply below_drew1 | refine below_set ?_ GE286.out | refine below_set ?_ GE294.out) | exact HB.out)⟩
          · replace c34 := Bool.eq_false_iff.mpr c34
            subst c34
            have H1 : (some false) = some r := by rw [if_neg (show ¬ (false = true) by decide)] at H; exact H
            clear H
            have H := H1
            clear H1
            obtain rfl := Option.some.inj H
            go_wp2_with (first | ((with_reducible refine gate_callee (f := 19) rfl ?_); refine goesL_ (some 42) rfl rfl Tryd.func19 (by kernel_rfl) rfl #[.slice A0 l0.length c0] rfl (by (try simp only [List.map_toArray, List.map_cons, List.map_nil]); first | done | rfl | (simp only [List.length_drop, List.length_take]; rfl)) ?_; (with_reducible refine (laws_toLegS.calls kj8 _ _ l0 t296 _ ?side1 ?side2 A32.out).mono ?_); (case side1 => repeat (first | exact (Kd.C_below HR0.out HB.out) | (with_reducible refine Kd.C_alloc ?_ _) | (with_reducible refine Kd.C_drewN ?_ _) | (with_reducible refine Kd.C_drew ?_))); (case side2 => exact HC0.out); rintro e w38 ⟨v297, rfl, ho0, hb⟩; refine ⟨_, rfl, ?_⟩; have n0_ := Aside0.mk (Kd.R_elder' (by (with_reducible repeat (first | apply Kd.R_alloc | apply Kd.R_drewN | apply Kd.R_drew)); exact HO_8.out) (Kd.R_base ho0) hb); have n1_ := Aside0.mk (Kd.R_lower (Kd.R_new' ho0 (Kd.R_lt (by (with_reducible repeat (first | apply Kd.R_alloc | apply Kd.R_drewN | apply Kd.R_drew)); exact HO_8.out))) (below_size (by repeat (first | (with_reducible first | exact HB.out | apply below_alloc | apply pw_below_drewN | apply below_drew1 | refine below_set ?_ GE286.out | refine below_set ?_ GE294.out) | exact HB.out)))); have n2_ := Aside0.mk (blk_below (g := gb286) (o := .cells #[.int .i64 t282, .int .i64 t283, .int .i64 t284] 25 (0, 0)) (by (with_reducible repeat (first | refine blk_drewN ?_ _ | refine blk_drew ?_ | refine blk_alloc ?_ _)); exact BK286.out) hb); have n3_ := Aside0.mk (blk_below (g := gb294) (o := .cells #[.int .i64 t290, .int .i64 t291, .int .i64 t292] 25 (0, 0)) (by (with_reducible repeat (first | refine blk_drewN ?_ _ | refine blk_drew ?_ | refine blk_alloc ?_ _)); exact BK294.out) hb); have n4_ := Aside0.mk (below_step (by repeat (first | (with_reducible first | exact HB.out | apply below_alloc | apply pw_below_drewN | apply below_drew1 | refine below_set ?_ GE286.out | refine below_set ?_ GE294.out) | exact HB.out)) hb); clear HO_8; clear BK286; clear BK294; clear HB; have HO_8 := n0_; have HO298 := n1_; have BK286 := n2_; have BK294 := n3_; have HB := n4_; clear n0_ n1_ n2_ n3_ n4_; (try clear hb); (try clear hb2); (try clear hk); (try clear hi); (try clear ho0); obtain ⟨Ao39, co39, eo39⟩ := Kd.R_slice HO298.out; subst eo39) | ((with_reducible refine gate_callee (f := 21) rfl ?_); refine goesL_ (some 43) rfl rfl Tryd.func21 (by kernel_rfl) rfl #[.slice Ao16 t287.length co16, .slice Ao39 t296.length co39] rfl (by (try simp only [List.map_toArray, List.map_cons, List.map_nil]); first | done | rfl | (simp only [List.length_drop, List.length_take]; rfl)) ?_; (with_reducible refine (laws_eqLegS.calls kj8 _ _ t287 _ _ t296 false _ ?side1 ?side2 ?side3 ?side4 A33.out).mono ?_); (case side1 => repeat (first | exact (Kd.R_reads' HO_8.out).2.2 | (with_reducible refine Kd.C_alloc ?_ _) | (with_reducible refine Kd.C_drewN ?_ _) | (with_reducible refine Kd.C_drew ?_))); (case side2 => exact (Kd.R_reads' HO_8.out).2.1); (case side3 => repeat (first | exact (Kd.R_reads' HO298.out).2.2 | (with_reducible refine Kd.C_alloc ?_ _) | (with_reducible refine Kd.C_drewN ?_ _) | (with_reducible refine Kd.C_drew ?_))); (case side4 => exact (Kd.R_reads' HO298.out).2.1); rintro e w40 ⟨rfl, hb⟩; refine ⟨_, rfl, ?_⟩; have n0_ := Aside0.mk (Kd.R_below (by (with_reducible repeat (first | apply Kd.R_alloc | apply Kd.R_drewN | apply Kd.R_drew)); exact HO_8.out) hb); have n1_ := Aside0.mk (Kd.R_below (by (with_reducible repeat (first | apply Kd.R_alloc | apply Kd.R_drewN | apply Kd.R_drew)); exact HO298.out) hb); have n2_ := Aside0.mk (blk_below (g := gb286) (o := .cells #[.int .i64 t282, .int .i64 t283, .int .i64 t284] 25 (0, 0)) (by (with_reducible repeat (first | refine blk_drewN ?_ _ | refine blk_drew ?_ | refine blk_alloc ?_ _)); exact BK286.out) hb); have n3_ := Aside0.mk (blk_below (g := gb294) (o := .cells #[.int .i64 t290, .int .i64 t291, .int .i64 t292] 25 (0, 0)) (by (with_reducible repeat (first | refine blk_drewN ?_ _ | refine blk_drew ?_ | refine blk_alloc ?_ _)); exact BK294.out) hb); have n4_ := Aside0.mk (below_step (by repeat (first | (with_reducible first | exact HB.out | apply below_alloc | apply pw_below_drewN | apply below_drew1 | refine below_set ?_ GE286.out | refine below_set ?_ GE294.out) | exact HB.out)) hb); clear HO_8; clear HO298; clear BK286; clear BK294; clear HB; have HO_8 := n0_; have HO298 := n1_; have BK286 := n2_; have BK294 := n3_; have HB := n4_; clear n0_ n1_ n2_ n3_ n4_; (try clear hb); (try clear hb2); (try clear hk); (try clear hi)))
            go_ret
            exact ⟨by first | rfl | (simp [errW_none, errW_some] <;> rfl) | (simp [*, errW_none, errW_some] <;> rfl), by repeat (first | (with_reducible first | exact HB.out | apply below_alloc | apply pw_below_drewN | apply below_drew1 | refine below_set ?_ GE286.out | refine below_set ?_ GE294.out) | exact HB.out)⟩

end Go.Proofs.YtjcmolbaanedaaaDoor.XFnExactErrorOf
