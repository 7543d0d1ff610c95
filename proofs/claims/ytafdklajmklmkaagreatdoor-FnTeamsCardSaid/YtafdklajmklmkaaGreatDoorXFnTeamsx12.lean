/- Contracts of the functions that the law FnTeams comes to: each is told as a plain function of its arguments, and the machine's call does what that function says; no condition. Written by programs (print.py, xprint.py); Lean checks it. -/
import Derived.Test.YtafdklajmklmkaaGreatDoorXFnTeamsx0
import Derived.Test.YtafdklajmklmkaaGreatDoorXFnTeamsx2
import Derived.Test.YtafdklajmklmkaaGreatDoorXFnTeamsx3
import Derived.Test.YtafdklajmklmkaaGreatDoorXFnTeamsx4
import Derived.Test.YtafdklajmklmkaaGreatDoorXFnTeamsx5
import Derived.Test.YtafdklajmklmkaaGreatDoorXFnTeamsx6
import Derived.Test.YtafdklajmklmkaaGreatDoorXFnTeamsx7
import Derived.Test.YtafdklajmklmkaaGreatDoorXFnTeamsx11
namespace Go.Proofs.YtafdklajmklmkaaGreatDoor.XFnTeams
open Go.RowKit Go.Proofs.YtafdklajmklmkaaGreatDoorW.PrintWords Go.Proofs.YtafdklajmklmkaaGreatDoorW.PrintLast Go.Proofs.YtafdklajmklmkaaGreatDoorW.PrintMore
attribute [local go_sem] max2_int min2_int max_two min_two max_three min_three max_four min_four   -- for this text's walks alone
set_option linter.unusedVariables false
set_option linter.unusedSimpArgs false

/-! ### impl_membersOf: function 44 (by hand) -/
def ixFrom (id : Int) : List S41 → Nat → Int
 | [], _ => -1
 | y :: r, i => if y.f0 = id then (i : Int) else ixFrom id r (i + 1)
theorem rd_T41_drop (l : List S41) (j : Nat) (h : j < l.length) : l.drop j = rd_T41 l (j : Int) :: l.drop (j + 1) := by
 rw [List.drop_eq_getElem_cons h]
 congr 1
 simp [rd_T41, h]
set_option maxHeartbeats 1000000 in
set_option maxRecDepth 100000 in
theorem membersOf_pred (g : Nat) (id : Int) (x : S41) (w : World) (hc : w.cell? ⟨g, 0, none⟩ = some (.int .i64 id)) (hg : g < w.heap.size) :
  Calls Tryz.prog 70 #[.agg #[.int .i64 x.f0, .string x.f1, .int .i64 x.f2, .int .i64 x.f3], .pointer (some ⟨g, 0, none⟩)] w fun e w' => e = .returned (.bool (x.f0 == id)) ∧ Below w.heap.size w w' := by
 have hne : g ≠ w.heap.size := by omega
 go_enter Tryz.func70, Tryz.ntmps70
 go_wp2
 go_ret
 exact ⟨rfl, (Below.refl _ w).alloc (Nat.le_refl _) _⟩
set_option maxHeartbeats 4000000 in
set_option maxRecDepth 100000 in
theorem indexFunc_calls (A0 : Option Addr) (c0 : Nat) (l0 : List S41) (g : Nat) (id : Int) (w : World) (hr0 : Kd.C k41 w A0 l0.length l0) (hlen : l0.length ≤ 9223372036854775807) (hc : w.cell? ⟨g, 0, none⟩ = some (.int .i64 id)) (hg : g < w.heap.size) :
  Calls Tryz.prog 69 #[.slice A0 l0.length c0, .func (.func 70) #[] #[.pointer (some ⟨g, 0, none⟩)]] w fun e w' => e = .returned (.int .i64 (ixFrom id l0 0)) ∧ Below w.heap.size w w' := by
 have hu41 := Tryz.underlying41; have HR0 := Aside0.mk hr0; have HCE := Aside0.mk hc; have HG := Aside0.mk hg; have HLen := Aside0.mk hlen
 obtain ⟨v, hv⟩ : ∃ v, ixFrom id l0 0 = v := ⟨_, rfl⟩
 rw [hv]
 have HV := Aside0.mk hv; clear hr0 hc hg hlen hv
 have HB := Aside0.mk (Below.refl w.heap.size w)
 go_enter Tryz.func69, Tryz.ntmps69
 go_wp2
 go_loopg [8] l0.length (fun kq v8 w' => ∃ j : Nat, v8 = .int .i64 j ∧ Aside0 (kq + j = l0.length) ∧ Aside0 (ixFrom id (l0.drop j) j = v) ∧ Aside0 (Below w.heap.size w w'))
 case atStart => exact ⟨0, rfl, ⟨rfl⟩, HV, HB⟩
 case round =>
  obtain ⟨j, rfl, HJ, HX, HB⟩ := hrel
  cases gk with
  | succ k1 =>
   have c1 : j < l0.length := by have := HJ.out; omega
   obtain ⟨ad, e1, hx0, hx1, hx2, hx3⟩ := at_T41 HR0.out (j : Int) (by omega) (by omega)
   cases e1
   simp only [Int.toNat_natCast] at hx0 hx1 hx2 hx3
   replace hx0 := (HB.out.cell (World.block_lt_of_cell? w _ hx0)).trans hx0
   replace hx1 := (HB.out.cell (World.block_lt_of_cell? w _ hx1)).trans hx1
   replace hx2 := (HB.out.cell (World.block_lt_of_cell? w _ hx2)).trans hx2
   replace hx3 := (HB.out.cell (World.block_lt_of_cell? w _ hx3)).trans hx3
   have c1n : decide (j < l0.length) = true := decide_eq_true c1
   have c1b : decide ((j : Int) < (l0.length : Int)) = true := decide_eq_true (by omega)
   have hd := rd_T41_drop l0 j c1; have HD := Aside0.mk hd; have CJ := Aside0.mk c1; have HY := HX.out
   rw [hd] at HY
   simp only [ixFrom] at HY
   by_cases c2 : (rd_T41 l0 (j : Int)).f0 = id
   ·rw [if_pos c2] at HY
    have c2b : ((rd_T41 l0 (j : Int)).f0 == id) = true := beq_iff_eq.mpr c2
    have HY' := Aside0.mk HY
    clear hd HY c2
    go_wp2_with (first | (go_at_call 70; refine (membersOf_pred g id (rd_T41 l0 (j : Int)) _ ((HB.out.cell HG.out).trans HCE.out) (Nat.lt_of_lt_of_le HG.out HB.out.size)).mono ?_; rintro e w2 ⟨rfl, hb⟩; have HB2 := Aside0.mk (below_step HB.out hb); clear hb))
    go_ret
    exact ⟨by rw [← HY'.out]; rfl, by repeat (first | (with_reducible first | exact HB2.out | apply below_alloc | apply pw_below_drewN | apply below_drew1) | exact HB2.out)⟩
   ·rw [if_neg c2] at HY
    have c2b : ((rd_T41 l0 (j : Int)).f0 == id) = false := beq_eq_false_iff_ne.mpr c2
    have HY' := Aside0.mk HY
    clear hd HY c2
    go_wp2_with (first | (go_at_call 70; refine (membersOf_pred g id (rd_T41 l0 (j : Int)) _ ((HB.out.cell HG.out).trans HCE.out) (Nat.lt_of_lt_of_le HG.out HB.out.size)).mono ?_; rintro e w2 ⟨rfl, hb⟩; have HB2 := Aside0.mk (below_step HB.out hb); clear hb))
    go_roundg k1
    case measure => omega
    case rel =>
     have q := CJ.out; have ql := HLen.out
     exact ⟨j + 1, congrArg (Value.int .i64) (by first | rfl | (unfold wrap64; omega) | omega), ⟨by have := HJ.out; omega⟩, HY', ⟨by repeat (first | (with_reducible first | exact HB2.out | apply below_alloc | apply pw_below_drewN | apply below_drew1) | exact HB2.out)⟩⟩
  | zero =>
   have c1 : ¬ j < l0.length := by have := HJ.out; omega
   have c1n : decide (j < l0.length) = false := decide_eq_false c1
   have c1b : decide ((j : Int) < (l0.length : Int)) = false := decide_eq_false (by omega)
   have HY := HX.out
   rw [List.drop_of_length_le (by omega)] at HY
   have HY' := Aside0.mk (show (-1 : Int) = v from HY)
   clear HY c1
   go_wp2
   go_ret
   exact ⟨by rw [← HY'.out]; rfl, HB.out⟩

/-- The people with the ids, behind those that are found already. -/
def memLoop (l : List S41) : List Int → List S41 → Option (List S41 × Bool)
 | [], acc => some (acc, true)
 | id :: ids, acc => if ixFrom id l 0 < 0 then some ([], false) else if ixFrom id l 0 < (l.length : Int) then (if acc.length < 2000000 then memLoop l ids (acc ++ [rd_T41 l (ixFrom id l 0)]) else none) else none
def impl_membersOf.f (k : Nat) (l0 : List S41) (l1 : List Int) : Option (List S41 × Bool) := (impl_strictly.f k l1 1 99).bind fun b => if b = true then memLoop l0 l1 [] else some ([], false)
theorem ids_drop (l : List Int) (j : Nat) (h : j < l.length) : l.drop j = rd l (j : Int) :: l.drop (j + 1) := by
 rw [List.drop_eq_getElem_cons h]
 congr 1
 simp [rd, h]
set_option maxHeartbeats 4000000 in
set_option maxRecDepth 100000 in
theorem impl_membersOf.calls (k : Nat) (A0 : Option Addr) (c0 : Nat) (l0 : List S41) (A1 : Option Addr) (c1 : Nat) (l1 : List Int) (r1 : List S41) (r2 : Bool) (w : World) (hr0 : Kd.C k41 w A0 l0.length l0) (hc0 : l0.length ≤ c0) (hr1 : Kd.C (Kd.int .i64) w A1 l1.length l1) (hc1 : l1.length ≤ c1) (h : impl_membersOf.f k l0 l1 = some (r1, r2)) :
  Calls Tryz.prog 44 #[.slice A0 l0.length c0, .slice A1 l1.length c1] w fun e w' => ∃ v0_ : Value, e = .returned (.tuple #[v0_, .bool r2]) ∧ Kd.R k41 41 w' w.heap.size (fun _ => True) v0_ r1 ∧ Below w.heap.size w w' := by
 have hu41 := Tryz.underlying41
 have HLen := Aside0.mk (show l0.length ≤ 9223372036854775807 from hr0.2.1)
 have HLen1 := Aside0.mk (show l1.length ≤ 9223372036854775807 from hr1.2.1)
 have HR0 := Aside0.mk hr0; have HR1 := Aside0.mk hr1; have HC0 := Aside0.mk hc0; have HC1 := Aside0.mk hc1; clear hr0 hr1 hc0 hc1
 have HB := Aside0.mk (Below.refl w.heap.size w)
 unfold impl_membersOf.f at h
 obtain ⟨b, hst, h⟩ := Option.bind_eq_some_iff.mp h
 have HST := Aside0.mk hst; clear hst
 cases b with
 | false =>
  simp only [Bool.false_eq_true, if_false, Option.some.injEq, Prod.mk.injEq] at h
  obtain ⟨rfl, rfl⟩ := h
  go_enter Tryz.func44, Tryz.ntmps44
  go_wp2_with (go_at_call 68; refine (impl_strictly.calls k A1 c1 l1 1 99 false _ HR1.out HC1.out HST.out).mono ?_; rintro e w1 ⟨rfl, hb⟩; obtain ⟨nd, rfl⟩ := hb; have HB1 := Aside0.mk (pw_below_drewN HB.out nd))
  go_ret2
  exact ⟨_, rfl, Kd.R_nil _ _ _ _ _, HB1.out⟩
 | true =>
  simp only [if_true] at h
  have H' := Aside0.mk h
  clear h
  go_enter Tryz.func44, Tryz.ntmps44
  go_wp2_with (go_at_call 68; refine (impl_strictly.calls k A1 c1 l1 1 99 true _ HR1.out HC1.out HST.out).mono ?_; rintro e w1 ⟨rfl, hb⟩; obtain ⟨nd, rfl⟩ := hb; have HB1 := Aside0.mk (pw_below_drewN HB.out nd))
  go_loopg [6, 15] l1.length (fun kq v6 v15 w' => ∃ (j : Nat) (acc : List S41), v15 = .int .i64 j ∧ Aside0 (kq + j = l1.length) ∧ Aside0 (memLoop l0 (l1.drop j) acc = some (r1, r2)) ∧ Aside0 (Kd.R k41 41 w' w.heap.size (fun _ => True) v6 acc) ∧ Aside0 (Below w.heap.size w w'))
  case atStart => exact ⟨0, [], rfl, ⟨rfl⟩, H', ⟨Kd.R_nil _ _ _ _ _⟩, ⟨by repeat (first | (with_reducible first | exact HB1.out | apply below_alloc | apply pw_below_drewN | apply below_drew1) | exact HB1.out)⟩⟩
  case round =>
   clear H' HB
   obtain ⟨j, acc, rfl, HJ, HM, HO, HB⟩ := hrel
   cases gk with
   | succ k1 =>
    have q1 : j < l1.length := by have := HJ.out; omega
    have q1b : decide ((j : Int) < (l1.length : Int)) = true := decide_eq_true (by omega)
    obtain ⟨ad, e1, hx⟩ := Kd.at_int HR1.out (j : Int) (by omega) (by omega)
    cases e1
    rw [Int.toNat_natCast] at hx
    replace hx := (HB.out.cell (World.block_lt_of_cell? w _ hx)).trans hx
    have hd := ids_drop l1 j q1; have H := HM.out
    rw [hd] at H
    simp only [memLoop] at H
    obtain ⟨id, hid⟩ : ∃ id, rd l1 (j : Int) = id := ⟨_, rfl⟩
    rw [hid] at H hx
    obtain ⟨ix, hix⟩ : ∃ ix, ixFrom id l0 0 = ix := ⟨_, rfl⟩
    rw [hix] at H
    have HIX := Aside0.mk hix; have Q1 := Aside0.mk q1; clear hd hid hix HM
    by_cases q2 : ix < 0
    ·rw [if_pos q2] at H
     simp only [Option.some.injEq, Prod.mk.injEq] at H
     obtain ⟨rfl, rfl⟩ := H
     have q2b : decide (ix < 0) = true := decide_eq_true q2
     clear q2
     go_wp2_with (first
      | ((with_reducible refine gate_dst (N := 8) rfl ?_); refine box_event ?hg (N := 8) ?hd (cs := #[.int .i64 0]) (t := 3) ?hr ?_; (case hd => rfl); (case hg => rfl); (case hr => first | (go_simp; done) | (go_simp; rfl)); intro gb hg w8 hbox hb; have n0_ := Aside0.mk (Kd.R_below z45_ hb); have n1_ := Aside0.mk (below_step bx_ hb); have n2_ := Aside0.mk (hbox); have n3_ := Aside0.mk ((by rw [hg]; exact (below_size bx_)) : w.heap.size ≤ gb); clear HO; clear HB; have HO := n0_; have HB := n1_; have BK := n2_; have GE := n3_; clear n0_ n1_ n2_ n3_; clear hb hbox hg; have hcz_0 : w8.cell? ⟨gb, 0, none⟩ = some (.int .i64 0) := (blk_cell BK.out 0).trans rfl; have hfz_0 := blk_frozen BK.out 0)
      | (go_at_call 69; have n0_ := Aside0.mk (blk_put (cs := #[.int .i64 0]) BK.out 0 (.int .i64 id) rfl); have n1_ := Aside0.mk (show Below w.heap.size w (w8.setCell ⟨gb, 0, none⟩ (.int .i64 id)) from below_set HB.out GE.out); have n2_ := Aside0.mk (Kd.R_mono (Kd.R_far (p := ⟨gb, 0, none⟩) (Kd.R_types HO.out BK.out (by decide)) (fun _ hk => hk.2) (.int .i64 id)) (fun _ hk => trivial)); refine (indexFunc_calls _ c0 l0 gb id _ (Kd.C_below HR0.out n1_.out) HLen.out (blk_cell n0_.out 0) (blk_lt n0_.out)).mono ?_; rintro e w9 ⟨rfl, hb⟩; rw [HIX.out]; have n3_ := Aside0.mk (Kd.R_below n2_.out hb); have n4_ := Aside0.mk (below_step n1_.out hb); clear HO HB BK GE n0_ n1_ n2_ hcz_0 hfz_0 hb; have HO := n3_; have HB := n4_; clear n3_ n4_))
     go_ret2
     exact ⟨_, rfl, Kd.R_nil _ _ _ _ _, HB.out⟩
    ·rw [if_neg q2] at H
     by_cases q3 : ix < (l0.length : Int)
     ·rw [if_pos q3] at H
      by_cases q4 : acc.length < 2000000
      ·rw [if_pos q4] at H
       have q2b : decide (ix < 0) = false := decide_eq_false q2
       have Q2 := Aside0.mk q2; have Q3 := Aside0.mk q3; have Q4 := Aside0.mk q4
       have H' := Aside0.mk H
       obtain ⟨ad, e1, hx0, hx1, hx2, hx3⟩ := at_T41 HR0.out ix (by omega) q3
       cases e1
       have HX0 := Aside0.mk hx0; have HX1 := Aside0.mk hx1; have HX2 := Aside0.mk hx2; have HX3 := Aside0.mk hx3; clear q2 q4 H hx0 hx1 hx2 hx3
       go_wp2_with (first
        | ((with_reducible refine gate_dst (N := 8) rfl ?_); refine box_event ?hg (N := 8) ?hd (cs := #[.int .i64 0]) (t := 3) ?hr ?_; (case hd => rfl); (case hg => rfl); (case hr => first | (go_simp; done) | (go_simp; rfl)); intro gb hg w8 hbox hb; have n0_ := Aside0.mk (Kd.R_below z45_ hb); have n1_ := Aside0.mk (below_step bx_ hb); have n2_ := Aside0.mk (hbox); have n3_ := Aside0.mk ((by rw [hg]; exact (below_size bx_)) : w.heap.size ≤ gb); clear HO; clear HB; have HO := n0_; have HB := n1_; have BK := n2_; have GE := n3_; clear n0_ n1_ n2_ n3_; clear hb hbox hg; have hcz_0 : w8.cell? ⟨gb, 0, none⟩ = some (.int .i64 0) := (blk_cell BK.out 0).trans rfl; have hfz_0 := blk_frozen BK.out 0)
        | (go_at_call 69; have n0_ := Aside0.mk (blk_put (cs := #[.int .i64 0]) BK.out 0 (.int .i64 id) rfl); have n1_ := Aside0.mk (show Below w.heap.size w (w8.setCell ⟨gb, 0, none⟩ (.int .i64 id)) from below_set HB.out GE.out); have n2_ := Aside0.mk (Kd.R_mono (Kd.R_far (p := ⟨gb, 0, none⟩) (Kd.R_types HO.out BK.out (by decide)) (fun _ hk => hk.2) (.int .i64 id)) (fun _ hk => trivial)); refine (indexFunc_calls _ c0 l0 gb id _ (Kd.C_below HR0.out n1_.out) HLen.out (blk_cell n0_.out 0) (blk_lt n0_.out)).mono ?_; rintro e w9 ⟨rfl, hb⟩; rw [HIX.out]; have n3_ := Aside0.mk (Kd.R_below n2_.out hb); have n4_ := Aside0.mk (below_step n1_.out hb); clear HO HB BK GE n0_ n1_ n2_ hcz_0 hfz_0 hb; have HO := n3_; have HB := n4_; clear n3_ n4_; have hx0 := (HB.out.cell (World.block_lt_of_cell? w _ HX0.out)).trans HX0.out; have hx1 := (HB.out.cell (World.block_lt_of_cell? w _ HX1.out)).trans HX1.out; have hx2 := (HB.out.cell (World.block_lt_of_cell? w _ HX2.out)).trans HX2.out; have hx3 := (HB.out.cell (World.block_lt_of_cell? w _ HX3.out)).trans HX3.out)
        | ((with_reducible refine gate_builtin (b := .append) (xs := #[.tmp 24, .tmp 29]) rfl ?_); at_builtin; refine Kd.R_append k41 (w0 := w) w.heap.size rfl (.tmp 24) (.tmp 29) 24 41 (.agg #[.int .i64 0, .string ⟨#[]⟩, .int .i64 0, .int .i64 0]) 40 rfl Tryz.underlying24 info41 rfl (by decide) (by omega) u6 acc (rd_T41 l0 ix) [.int .i64 (rd_T41 l0 ix).f0, .string (rd_T41 l0 ix).f1, .int .i64 (rd_T41 l0 ix).f2, .int .i64 (rd_T41 l0 ix).f3] (fun _ => True) (fun _ => False) rfl rfl ?aP (fun _ hk => hk.elim) ?aF ?aO ?aB ?aS ?aL ?_; (case aP => exact k41_mkM _ _ _ _); (case aB => exact bx_); (case aF => exact (fun _ _ => trivial)); (case aO => exact z45_); (case aS => exact (below_size bx_)); (case aL => have := Q4.out; omega); intro v119 w16 ho hb hg hat; have n0_ := Aside0.mk (hb); have n1_ := Aside0.mk (ho); clear HB; clear HO; have HB := n0_; have HO := n1_; clear n0_ n1_; clear ho hb hg hat))
       case isFalse hh => exact absurd Q2.out (by omega)
       go_roundg k1
       case measure => omega
       case rel => exact ⟨j + 1, _, congrArg (Value.int .i64) (by first | rfl | (unfold wrap64; have := Q1.out; have := HLen1.out; omega)), ⟨by have := HJ.out; omega⟩, H', HO, HB⟩
      ·rw [if_neg q4] at H; cases H
     ·rw [if_neg q3] at H; cases H
   | zero =>
    have q1 : ¬ j < l1.length := by have := HJ.out; omega
    have q1b : decide ((j : Int) < (l1.length : Int)) = false := decide_eq_false (by omega)
    have q1n : decide (j < l1.length) = false := decide_eq_false q1
    have H := HM.out
    rw [List.drop_of_length_le (by omega)] at H
    simp only [memLoop, Option.some.injEq, Prod.mk.injEq] at H
    obtain ⟨rfl, rfl⟩ := H; clear q1
    go_wp2
    go_ret2
    exact ⟨_, rfl, HO.out, HB.out⟩


/-! ### impl_IsTeam: function 10 -/
def impl_IsTeam.f (k : Nat) (l0 : List (S41)) (l1 : List Int) : Option (Bool × Bool) := (impl_membersOf.f k l0 l1).bind fun bt296 => (if bt296.2 = true then ((impl_ArePeople.f k l0).bind fun t300 => (if t300 = true then ((impl_areTeam.f k bt296.1).bind fun t301 => (some (t301, true))) else (some (false, false)))) else (some (false, false)))
set_option maxHeartbeats 8000000 in
set_option maxRecDepth 100000 in
theorem impl_IsTeam.calls (k : Nat) (A0 : Option Addr) (c0 : Nat) (l0 : List (S41)) (A1 : Option Addr) (c1 : Nat) (l1 : List Int) (r1 : Bool) (r2 : Bool) (w : World) (hr0 : Kd.C k41 w A0 l0.length l0) (hc0 : l0.length ≤ c0) (hr1 : Kd.C (Kd.int .i64) w A1 l1.length l1) (hc1 : l1.length ≤ c1) (h : impl_IsTeam.f k l0 l1 = some (r1, r2)) :
  Calls Tryz.prog 10 #[.slice A0 l0.length c0, .slice A1 l1.length c1] w fun e w' => e = .returned (.tuple #[.bool r1, .bool r2]) ∧ Below w.heap.size w w' := by
 have HR0 := Aside0.mk hr0; have HC0 := Aside0.mk hc0; clear hr0 hc0; have HR1 := Aside0.mk hr1; have HC1 := Aside0.mk hc1; clear hr1 hc1
 have HB := Aside0.mk (Below.refl w.heap.size w)
 have H : ((impl_membersOf.f k l0 l1).bind fun bt296 => (if bt296.2 = true then ((impl_ArePeople.f k l0).bind fun t300 => (if t300 = true then ((impl_areTeam.f k bt296.1).bind fun t301 => (some (t301, true))) else (some (false, false)))) else (some (false, false)))) = some (r1, r2) := h
 clear h; replace H := Option.bind_eq_some_iff.mp H; obtain ⟨⟨t296, t297⟩, A30, H⟩ := H
 replace H : (if t297 = true then ((impl_ArePeople.f k l0).bind fun t300 => (if t300 = true then ((impl_areTeam.f k t296).bind fun t301 => (some (t301, true))) else (some (false, false)))) else (some (false, false))) = some (r1, r2) := H
 have A3 := Aside0.mk A30; clear A30
 by_cases c4 : t297 = true
 ·subst c4
  have H1 : ((impl_ArePeople.f k l0).bind fun t300 => (if t300 = true then ((impl_areTeam.f k t296).bind fun t301 => (some (t301, true))) else (some (false, false)))) = some (r1, r2) := by rw [if_pos rfl] at H; exact H
  clear H; have H := H1; clear H1; replace H := Option.bind_eq_some_iff.mp H; obtain ⟨t300, A50, H⟩ := H
  replace H : (if t300 = true then ((impl_areTeam.f k t296).bind fun t301 => (some (t301, true))) else (some (false, false))) = some (r1, r2) := H
  have A5 := Aside0.mk A50; clear A50
  by_cases c6 : t300 = true
  ·subst c6
   have H1 : ((impl_areTeam.f k t296).bind fun t301 => (some (t301, true))) = some (r1, r2) := by rw [if_pos rfl] at H; exact H
   clear H; have H := H1; clear H1; replace H := Option.bind_eq_some_iff.mp H; obtain ⟨t301, A70, H⟩ := H
   replace H : (some (t301, true)) = some (r1, r2) := H
   have A7 := Aside0.mk A70; clear A70
   simp only [Option.some.injEq, Prod.mk.injEq] at H
   obtain ⟨rfl, rfl⟩ := H
   go_enter Tryz.func10, Tryz.ntmps10
   go_wp2_with (first | ((with_reducible refine gate_callee (f := 44) rfl ?_); refine goesL_ (some 11) rfl rfl Tryz.func44 (by kernel_rfl) rfl #[.slice A0 l0.length c0, .slice A1 l1.length c1] rfl gl_ ?_; (with_reducible refine (impl_membersOf.calls k _ _ l0 _ _ l1 t296 true _ ?side1 ?side2 ?side3 ?side4 A3.out).mono ?_); (case side1 => exact z11_); (case side2 => exact HC0.out); (case side3 => repeat (first | exact HR1.out | (with_reducible refine Kd.C_alloc ?_ _) | (with_reducible refine Kd.C_drewN ?_ _) | (with_reducible refine Kd.C_drew ?_))); (case side4 => exact HC1.out); rintro e w8 ⟨v298, rfl, ho0, hb⟩; refine ⟨_, rfl, ?_⟩; have n0_ := Aside0.mk (Kd.R_lower ho0 (below_size bx_)); have n1_ := Aside0.mk (below_step bx_ hb); clear HB; have HO299 := n0_; have HB := n1_; clear n0_ n1_; (try clear hb); (try clear hk); (try clear hi); (try clear ho0)) | (go_at_call 21; (with_reducible refine (impl_ArePeople.calls k _ _ l0 true _ ?side1 ?side2 A5.out).mono ?_); (case side1 => exact z14_); (case side2 => exact HC0.out); rintro e w9 ⟨rfl, hb⟩; have n0_ := Aside0.mk (Kd.R_below (kr_ HO299) hb); have n1_ := Aside0.mk (below_step bx_ hb); clear HO299; clear HB; have HO299 := n0_; have HB := n1_; clear n0_ n1_; (try clear hb); (try clear hk); (try clear hi); obtain ⟨Ao10, co10, eo10⟩ := Kd.R_slice HO299.out; subst eo10) | ((with_reducible refine gate_callee (f := 45) rfl ?_); refine goesL_ (some 22) rfl rfl Tryz.func45 (by kernel_rfl) rfl #[.slice Ao10 t296.length co10] rfl gl_ ?_; (with_reducible refine (impl_areTeam.calls k _ _ t296 t301 _ ?side1 ?side2 A7.out).mono ?_); (case side1 => repeat (first | exact (Kd.R_reads' HO299.out).2.2 | (with_reducible refine Kd.C_alloc ?_ _) | (with_reducible refine Kd.C_drewN ?_ _) | (with_reducible refine Kd.C_drew ?_))); (case side2 => exact (Kd.R_reads' HO299.out).2.1); rintro e w11 ⟨rfl, hb⟩; refine ⟨_, rfl, ?_⟩; have n0_ := Aside0.mk (Kd.R_below (kr_ HO299) hb); have n1_ := Aside0.mk (below_step bx_ hb); clear HO299; clear HB; have HO299 := n0_; have HB := n1_; clear n0_ n1_; (try clear hb); (try clear hk); (try clear hi)))
   go_ret2
   exact ⟨z6_, z5_⟩
  ·replace c6 := Bool.eq_false_iff.mpr c6
   subst c6
   have H1 : (some (false, false)) = some (r1, r2) := by rw [if_neg (show ¬ (false = true) by decide)] at H; exact H
   clear H; have H := H1; clear H1
   simp only [Option.some.injEq, Prod.mk.injEq] at H
   obtain ⟨rfl, rfl⟩ := H
   go_enter Tryz.func10, Tryz.ntmps10
   go_wp2_with (first | ((with_reducible refine gate_callee (f := 44) rfl ?_); refine goesL_ (some 11) rfl rfl Tryz.func44 (by kernel_rfl) rfl #[.slice A0 l0.length c0, .slice A1 l1.length c1] rfl gl_ ?_; (with_reducible refine (impl_membersOf.calls k _ _ l0 _ _ l1 t296 true _ ?side1 ?side2 ?side3 ?side4 A3.out).mono ?_); (case side1 => exact z11_); (case side2 => exact HC0.out); (case side3 => repeat (first | exact HR1.out | (with_reducible refine Kd.C_alloc ?_ _) | (with_reducible refine Kd.C_drewN ?_ _) | (with_reducible refine Kd.C_drew ?_))); (case side4 => exact HC1.out); rintro e w12 ⟨v298, rfl, ho0, hb⟩; refine ⟨_, rfl, ?_⟩; have n0_ := Aside0.mk (Kd.R_lower ho0 (below_size bx_)); have n1_ := Aside0.mk (below_step bx_ hb); clear HB; have HO299 := n0_; have HB := n1_; clear n0_ n1_; (try clear hb); (try clear hk); (try clear hi); (try clear ho0)) | (go_at_call 21; (with_reducible refine (impl_ArePeople.calls k _ _ l0 false _ ?side1 ?side2 A5.out).mono ?_); (case side1 => exact z14_); (case side2 => exact HC0.out); rintro e w13 ⟨rfl, hb⟩; have n0_ := Aside0.mk (Kd.R_below (kr_ HO299) hb); have n1_ := Aside0.mk (below_step bx_ hb); clear HO299; clear HB; have HO299 := n0_; have HB := n1_; clear n0_ n1_; (try clear hb); (try clear hk); (try clear hi)))
   go_ret2
   exact ⟨z6_, z5_⟩
 ·replace c4 := Bool.eq_false_iff.mpr c4
  subst c4
  have H1 : (some (false, false)) = some (r1, r2) := by rw [if_neg (show ¬ (false = true) by decide)] at H; exact H
  clear H; have H := H1; clear H1
  simp only [Option.some.injEq, Prod.mk.injEq] at H
  obtain ⟨rfl, rfl⟩ := H
  go_enter Tryz.func10, Tryz.ntmps10
  go_wp2_with (first | ((with_reducible refine gate_callee (f := 44) rfl ?_); refine goesL_ (some 11) rfl rfl Tryz.func44 (by kernel_rfl) rfl #[.slice A0 l0.length c0, .slice A1 l1.length c1] rfl gl_ ?_; (with_reducible refine (impl_membersOf.calls k _ _ l0 _ _ l1 t296 false _ ?side1 ?side2 ?side3 ?side4 A3.out).mono ?_); (case side1 => exact z11_); (case side2 => exact HC0.out); (case side3 => repeat (first | exact HR1.out | (with_reducible refine Kd.C_alloc ?_ _) | (with_reducible refine Kd.C_drewN ?_ _) | (with_reducible refine Kd.C_drew ?_))); (case side4 => exact HC1.out); rintro e w14 ⟨v298, rfl, ho0, hb⟩; refine ⟨_, rfl, ?_⟩; have n0_ := Aside0.mk (Kd.R_lower ho0 (below_size bx_)); have n1_ := Aside0.mk (below_step bx_ hb); clear HB; have HO299 := n0_; have HB := n1_; clear n0_ n1_; (try clear hb); (try clear hk); (try clear hi); (try clear ho0)))
  go_ret2
  exact ⟨z6_, z5_⟩

/-! ### impl_teamOf: function 46 -/
def impl_teamOf.f (k : Nat) (l0 : List (S41)) (l1 : List Int) : Option ((List (S41)) × Bool) := (impl_ArePeople.f k l0).bind fun t302 => (if t302 = true then ((impl_membersOf.f k l0 l1).bind fun bt303 => (if bt303.2 = true then ((impl_areTeam.f k bt303.1).bind fun t307 => (some (bt303.1, t307))) else (some (bt303.1, false)))) else (some (([] : List (S41)), false)))
set_option maxHeartbeats 8000000 in
set_option maxRecDepth 100000 in
theorem impl_teamOf.calls (k : Nat) (A0 : Option Addr) (c0 : Nat) (l0 : List (S41)) (A1 : Option Addr) (c1 : Nat) (l1 : List Int) (r1 : List (S41)) (r2 : Bool) (w : World) (hr0 : Kd.C k41 w A0 l0.length l0) (hc0 : l0.length ≤ c0) (hr1 : Kd.C (Kd.int .i64) w A1 l1.length l1) (hc1 : l1.length ≤ c1) (h : impl_teamOf.f k l0 l1 = some (r1, r2)) :
  Calls Tryz.prog 46 #[.slice A0 l0.length c0, .slice A1 l1.length c1] w fun e w' => ∃ v0_ : Value, e = .returned (.tuple #[v0_, .bool r2]) ∧ Kd.R k41 41 w' w.heap.size (fun _ => True) v0_ r1 ∧ Below w.heap.size w w' := by
 have HR0 := Aside0.mk hr0; have HC0 := Aside0.mk hc0; clear hr0 hc0; have HR1 := Aside0.mk hr1; have HC1 := Aside0.mk hc1; clear hr1 hc1
 have HB := Aside0.mk (Below.refl w.heap.size w)
 have H : ((impl_ArePeople.f k l0).bind fun t302 => (if t302 = true then ((impl_membersOf.f k l0 l1).bind fun bt303 => (if bt303.2 = true then ((impl_areTeam.f k bt303.1).bind fun t307 => (some (bt303.1, t307))) else (some (bt303.1, false)))) else (some (([] : List (S41)), false)))) = some (r1, r2) := h
 clear h; replace H := Option.bind_eq_some_iff.mp H; obtain ⟨t302, A30, H⟩ := H
 replace H : (if t302 = true then ((impl_membersOf.f k l0 l1).bind fun bt303 => (if bt303.2 = true then ((impl_areTeam.f k bt303.1).bind fun t307 => (some (bt303.1, t307))) else (some (bt303.1, false)))) else (some (([] : List (S41)), false))) = some (r1, r2) := H
 have A3 := Aside0.mk A30; clear A30
 by_cases c4 : t302 = true
 ·subst c4
  have H1 : ((impl_membersOf.f k l0 l1).bind fun bt303 => (if bt303.2 = true then ((impl_areTeam.f k bt303.1).bind fun t307 => (some (bt303.1, t307))) else (some (bt303.1, false)))) = some (r1, r2) := by rw [if_pos rfl] at H; exact H
  clear H; have H := H1; clear H1; replace H := Option.bind_eq_some_iff.mp H; obtain ⟨⟨t303, t304⟩, A50, H⟩ := H
  replace H : (if t304 = true then ((impl_areTeam.f k t303).bind fun t307 => (some (t303, t307))) else (some (t303, false))) = some (r1, r2) := H
  have A5 := Aside0.mk A50; clear A50
  by_cases c6 : t304 = true
  ·subst c6
   have H1 : ((impl_areTeam.f k t303).bind fun t307 => (some (t303, t307))) = some (r1, r2) := by rw [if_pos rfl] at H; exact H
   clear H; have H := H1; clear H1; replace H := Option.bind_eq_some_iff.mp H; obtain ⟨t307, A70, H⟩ := H
   replace H : (some (t303, t307)) = some (r1, r2) := H
   have A7 := Aside0.mk A70; clear A70
   simp only [Option.some.injEq, Prod.mk.injEq] at H
   obtain ⟨rfl, rfl⟩ := H
   go_enter Tryz.func46, Tryz.ntmps46
   go_wp2_with (first | ((with_reducible refine gate_callee (f := 21) rfl ?_); refine goesL_ (some 9) rfl rfl Tryz.func21 (by kernel_rfl) rfl #[.slice A0 l0.length c0] rfl gl_ ?_; (with_reducible refine (impl_ArePeople.calls k _ _ l0 true _ ?side1 ?side2 A3.out).mono ?_); (case side1 => exact z11_); (case side2 => exact HC0.out); rintro e w8 ⟨rfl, hb⟩; refine ⟨_, rfl, ?_⟩; have n0_ := Aside0.mk (below_step bx_ hb); clear HB; have HB := n0_; clear n0_; (try clear hb); (try clear hk); (try clear hi)) | ((with_reducible refine gate_callee (f := 44) rfl ?_); refine goesL_ (some 14) rfl rfl Tryz.func44 (by kernel_rfl) rfl #[.slice A0 l0.length c0, .slice A1 l1.length c1] rfl gl_ ?_; (with_reducible refine (impl_membersOf.calls k _ _ l0 _ _ l1 t303 true _ ?side1 ?side2 ?side3 ?side4 A5.out).mono ?_); (case side1 => exact z14_); (case side2 => exact HC0.out); (case side3 => exact z37_); (case side4 => exact HC1.out); rintro e w9 ⟨v305, rfl, ho0, hb⟩; refine ⟨_, rfl, ?_⟩; have n0_ := Aside0.mk (Kd.R_lower ho0 (below_size bx_)); have n1_ := Aside0.mk (below_step bx_ hb); clear HB; have HO306 := n0_; have HB := n1_; clear n0_ n1_; (try clear hb); (try clear hk); (try clear hi); (try clear ho0); obtain ⟨Ao10, co10, eo10⟩ := Kd.R_slice HO306.out; subst eo10) | (go_at_call 45; (with_reducible refine (impl_areTeam.calls k _ _ t303 t307 _ ?side1 ?side2 A7.out).mono ?_); (case side1 => repeat (first | exact (Kd.R_reads' HO306.out).2.2 | (with_reducible refine Kd.C_alloc ?_ _) | (with_reducible refine Kd.C_drewN ?_ _) | (with_reducible refine Kd.C_drew ?_))); (case side2 => exact (Kd.R_reads' HO306.out).2.1); rintro e w11 ⟨rfl, hb⟩; have n0_ := Aside0.mk (Kd.R_below (kr_ HO306) hb); have n1_ := Aside0.mk (below_step bx_ hb); clear HO306; clear HB; have HO306 := n0_; have HB := n1_; clear n0_ n1_; (try clear hb); (try clear hk); (try clear hi)))
   go_ret2
   exact ⟨_, z6_, by (with_reducible repeat (first | apply Kd.R_alloc | apply Kd.R_drewN | apply Kd.R_drew)); exact HO306.out, z5_⟩
  ·replace c6 := Bool.eq_false_iff.mpr c6
   subst c6
   have H1 : (some (t303, false)) = some (r1, r2) := by rw [if_neg (show ¬ (false = true) by decide)] at H; exact H
   clear H; have H := H1; clear H1
   simp only [Option.some.injEq, Prod.mk.injEq] at H
   obtain ⟨rfl, rfl⟩ := H
   go_enter Tryz.func46, Tryz.ntmps46
   go_wp2_with (first | ((with_reducible refine gate_callee (f := 21) rfl ?_); refine goesL_ (some 9) rfl rfl Tryz.func21 (by kernel_rfl) rfl #[.slice A0 l0.length c0] rfl gl_ ?_; (with_reducible refine (impl_ArePeople.calls k _ _ l0 true _ ?side1 ?side2 A3.out).mono ?_); (case side1 => exact z11_); (case side2 => exact HC0.out); rintro e w12 ⟨rfl, hb⟩; refine ⟨_, rfl, ?_⟩; have n0_ := Aside0.mk (below_step bx_ hb); clear HB; have HB := n0_; clear n0_; (try clear hb); (try clear hk); (try clear hi)) | ((with_reducible refine gate_callee (f := 44) rfl ?_); refine goesL_ (some 14) rfl rfl Tryz.func44 (by kernel_rfl) rfl #[.slice A0 l0.length c0, .slice A1 l1.length c1] rfl gl_ ?_; (with_reducible refine (impl_membersOf.calls k _ _ l0 _ _ l1 t303 false _ ?side1 ?side2 ?side3 ?side4 A5.out).mono ?_); (case side1 => exact z14_); (case side2 => exact HC0.out); (case side3 => exact z37_); (case side4 => exact HC1.out); rintro e w13 ⟨v305, rfl, ho0, hb⟩; refine ⟨_, rfl, ?_⟩; have n0_ := Aside0.mk (Kd.R_lower ho0 (below_size bx_)); have n1_ := Aside0.mk (below_step bx_ hb); clear HB; have HO306 := n0_; have HB := n1_; clear n0_ n1_; (try clear hb); (try clear hk); (try clear hi); (try clear ho0)))
   go_ret2
   exact ⟨_, z6_, by (with_reducible repeat (first | apply Kd.R_alloc | apply Kd.R_drewN | apply Kd.R_drew)); exact HO306.out, z5_⟩
 ·replace c4 := Bool.eq_false_iff.mpr c4
  subst c4
  have H1 : (some (([] : List (S41)), false)) = some (r1, r2) := by rw [if_neg (show ¬ (false = true) by decide)] at H; exact H
  clear H; have H := H1; clear H1
  simp only [Option.some.injEq, Prod.mk.injEq] at H
  obtain ⟨rfl, rfl⟩ := H
  go_enter Tryz.func46, Tryz.ntmps46
  go_wp2_with (first | ((with_reducible refine gate_callee (f := 21) rfl ?_); refine goesL_ (some 9) rfl rfl Tryz.func21 (by kernel_rfl) rfl #[.slice A0 l0.length c0] rfl gl_ ?_; (with_reducible refine (impl_ArePeople.calls k _ _ l0 false _ ?side1 ?side2 A3.out).mono ?_); (case side1 => exact z11_); (case side2 => exact HC0.out); rintro e w14 ⟨rfl, hb⟩; refine ⟨_, rfl, ?_⟩; have n0_ := Aside0.mk (below_step bx_ hb); clear HB; have HB := n0_; clear n0_; (try clear hb); (try clear hk); (try clear hi)))
  go_ret2
  exact ⟨_, z6_, z28_, z5_⟩

/-! ### impl_MissingSkills: function 11 -/
def impl_MissingSkills.f (k : Nat) (l0 : List (S41)) (l1 : List Int) (a2 : Int) : Option (Int × Bool) := (impl_teamOf.f k l0 l1).bind fun bt308 => (if bt308.2 = true then ((impl_areSkills.f a2).bind fun t312 => (if t312 = true then ((impl_skills.f k bt308.1).bind fun bt313 => (some (Go.bits .andNot .i64 a2 bt313.1, true))) else (some (0, false)))) else (some (0, false)))
set_option maxHeartbeats 8000000 in
set_option maxRecDepth 100000 in
theorem impl_MissingSkills.calls (k : Nat) (A0 : Option Addr) (c0 : Nat) (l0 : List (S41)) (A1 : Option Addr) (c1 : Nat) (l1 : List Int) (a2 : Int) (r1 : Int) (r2 : Bool) (w : World) (hr0 : Kd.C k41 w A0 l0.length l0) (hc0 : l0.length ≤ c0) (hr1 : Kd.C (Kd.int .i64) w A1 l1.length l1) (hc1 : l1.length ≤ c1) (h : impl_MissingSkills.f k l0 l1 a2 = some (r1, r2)) :
  Calls Tryz.prog 11 #[.slice A0 l0.length c0, .slice A1 l1.length c1, .int .i64 a2] w fun e w' => e = .returned (.tuple #[.int .i64 r1, .bool r2]) ∧ Below w.heap.size w w' := by
 have HR0 := Aside0.mk hr0; have HC0 := Aside0.mk hc0; clear hr0 hc0; have HR1 := Aside0.mk hr1; have HC1 := Aside0.mk hc1; clear hr1 hc1
 have HB := Aside0.mk (Below.refl w.heap.size w)
 have H : ((impl_teamOf.f k l0 l1).bind fun bt308 => (if bt308.2 = true then ((impl_areSkills.f a2).bind fun t312 => (if t312 = true then ((impl_skills.f k bt308.1).bind fun bt313 => (some (Go.bits .andNot .i64 a2 bt313.1, true))) else (some (0, false)))) else (some (0, false)))) = some (r1, r2) := h
 clear h; replace H := Option.bind_eq_some_iff.mp H; obtain ⟨⟨t308, t309⟩, A40, H⟩ := H
 replace H : (if t309 = true then ((impl_areSkills.f a2).bind fun t312 => (if t312 = true then ((impl_skills.f k t308).bind fun bt313 => (some (Go.bits .andNot .i64 a2 bt313.1, true))) else (some (0, false)))) else (some (0, false))) = some (r1, r2) := H
 have A4 := Aside0.mk A40; clear A40
 by_cases c5 : t309 = true
 ·subst c5
  have H1 : ((impl_areSkills.f a2).bind fun t312 => (if t312 = true then ((impl_skills.f k t308).bind fun bt313 => (some (Go.bits .andNot .i64 a2 bt313.1, true))) else (some (0, false)))) = some (r1, r2) := by rw [if_pos rfl] at H; exact H
  clear H; have H := H1; clear H1; replace H := Option.bind_eq_some_iff.mp H; obtain ⟨t312, A60, H⟩ := H
  replace H : (if t312 = true then ((impl_skills.f k t308).bind fun bt313 => (some (Go.bits .andNot .i64 a2 bt313.1, true))) else (some (0, false))) = some (r1, r2) := H
  have A6 := Aside0.mk A60; clear A60
  by_cases c7 : t312 = true
  ·subst c7
   have H1 : ((impl_skills.f k t308).bind fun bt313 => (some (Go.bits .andNot .i64 a2 bt313.1, true))) = some (r1, r2) := by rw [if_pos rfl] at H; exact H
   clear H; have H := H1; clear H1; replace H := Option.bind_eq_some_iff.mp H; obtain ⟨⟨t313, t314⟩, A80, H⟩ := H
   replace H : (some (Go.bits .andNot .i64 a2 t313, true)) = some (r1, r2) := H
   have A8 := Aside0.mk A80; clear A80
   simp only [Option.some.injEq, Prod.mk.injEq] at H
   obtain ⟨rfl, rfl⟩ := H
   go_enter Tryz.func11, Tryz.ntmps11
   go_wp2_with (first | ((with_reducible refine gate_callee (f := 46) rfl ?_); refine goesL_ (some 15) rfl rfl Tryz.func46 (by kernel_rfl) rfl #[.slice A0 l0.length c0, .slice A1 l1.length c1] rfl gl_ ?_; (with_reducible refine (impl_teamOf.calls k _ _ l0 _ _ l1 t308 true _ ?side1 ?side2 ?side3 ?side4 A4.out).mono ?_); (case side1 => exact z11_); (case side2 => exact HC0.out); (case side3 => repeat (first | exact HR1.out | (with_reducible refine Kd.C_alloc ?_ _) | (with_reducible refine Kd.C_drewN ?_ _) | (with_reducible refine Kd.C_drew ?_))); (case side4 => exact HC1.out); rintro e w9 ⟨v310, rfl, ho0, hb⟩; refine ⟨_, rfl, ?_⟩; have n0_ := Aside0.mk (Kd.R_lower ho0 (below_size bx_)); have n1_ := Aside0.mk (below_step bx_ hb); clear HB; have HO311 := n0_; have HB := n1_; clear n0_ n1_; (try clear hb); (try clear hk); (try clear hi); (try clear ho0)) | (go_at_call 34; (with_reducible refine (impl_areSkills.calls a2 true _ A6.out).mono ?_); rintro e w' ⟨rfl, ⟨nd, rfl⟩⟩; obtain ⟨Ao10, co10, eo10⟩ := Kd.R_slice HO311.out; subst eo10) | ((with_reducible refine gate_callee (f := 36) rfl ?_); refine goesL_ (some 27) rfl rfl Tryz.func36 (by kernel_rfl) rfl #[.slice Ao10 t308.length co10] rfl gl_ ?_; (with_reducible refine (impl_skills.calls k _ _ t308 t313 t314 _ ?side1 ?side2 A8.out).mono ?_); (case side1 => repeat (first | exact (Kd.R_reads' HO311.out).2.2 | (with_reducible refine Kd.C_alloc ?_ _) | (with_reducible refine Kd.C_drewN ?_ _) | (with_reducible refine Kd.C_drew ?_))); (case side2 => exact (Kd.R_reads' HO311.out).2.1); rintro e w11 ⟨rfl, hb⟩; refine ⟨_, rfl, ?_⟩; have n0_ := Aside0.mk (Kd.R_below (kr_ HO311) hb); have n1_ := Aside0.mk (below_step bx_ hb); clear HO311; clear HB; have HO311 := n0_; have HB := n1_; clear n0_ n1_; (try clear hb); (try clear hk); (try clear hi)))
   go_ret2
   exact ⟨z6_, z5_⟩
  ·replace c7 := Bool.eq_false_iff.mpr c7
   subst c7
   have H1 : (some (0, false)) = some (r1, r2) := by rw [if_neg (show ¬ (false = true) by decide)] at H; exact H
   clear H; have H := H1; clear H1
   simp only [Option.some.injEq, Prod.mk.injEq] at H
   obtain ⟨rfl, rfl⟩ := H
   go_enter Tryz.func11, Tryz.ntmps11
   go_wp2_with (first | ((with_reducible refine gate_callee (f := 46) rfl ?_); refine goesL_ (some 15) rfl rfl Tryz.func46 (by kernel_rfl) rfl #[.slice A0 l0.length c0, .slice A1 l1.length c1] rfl gl_ ?_; (with_reducible refine (impl_teamOf.calls k _ _ l0 _ _ l1 t308 true _ ?side1 ?side2 ?side3 ?side4 A4.out).mono ?_); (case side1 => exact z11_); (case side2 => exact HC0.out); (case side3 => repeat (first | exact HR1.out | (with_reducible refine Kd.C_alloc ?_ _) | (with_reducible refine Kd.C_drewN ?_ _) | (with_reducible refine Kd.C_drew ?_))); (case side4 => exact HC1.out); rintro e w12 ⟨v310, rfl, ho0, hb⟩; refine ⟨_, rfl, ?_⟩; have n0_ := Aside0.mk (Kd.R_lower ho0 (below_size bx_)); have n1_ := Aside0.mk (below_step bx_ hb); clear HB; have HO311 := n0_; have HB := n1_; clear n0_ n1_; (try clear hb); (try clear hk); (try clear hi); (try clear ho0)) | (go_at_call 34; (with_reducible refine (impl_areSkills.calls a2 false _ A6.out).mono ?_); rintro e w' ⟨rfl, ⟨nd, rfl⟩⟩))
   go_ret2
   exact ⟨z6_, z5_⟩
 ·replace c5 := Bool.eq_false_iff.mpr c5
  subst c5
  have H1 : (some (0, false)) = some (r1, r2) := by rw [if_neg (show ¬ (false = true) by decide)] at H; exact H
  clear H; have H := H1; clear H1
  simp only [Option.some.injEq, Prod.mk.injEq] at H
  obtain ⟨rfl, rfl⟩ := H
  go_enter Tryz.func11, Tryz.ntmps11
  go_wp2_with (first | ((with_reducible refine gate_callee (f := 46) rfl ?_); refine goesL_ (some 15) rfl rfl Tryz.func46 (by kernel_rfl) rfl #[.slice A0 l0.length c0, .slice A1 l1.length c1] rfl gl_ ?_; (with_reducible refine (impl_teamOf.calls k _ _ l0 _ _ l1 t308 false _ ?side1 ?side2 ?side3 ?side4 A4.out).mono ?_); (case side1 => exact z11_); (case side2 => exact HC0.out); (case side3 => repeat (first | exact HR1.out | (with_reducible refine Kd.C_alloc ?_ _) | (with_reducible refine Kd.C_drewN ?_ _) | (with_reducible refine Kd.C_drew ?_))); (case side4 => exact HC1.out); rintro e w13 ⟨v310, rfl, ho0, hb⟩; refine ⟨_, rfl, ?_⟩; have n0_ := Aside0.mk (Kd.R_lower ho0 (below_size bx_)); have n1_ := Aside0.mk (below_step bx_ hb); clear HB; have HO311 := n0_; have HB := n1_; clear n0_ n1_; (try clear hb); (try clear hk); (try clear hi); (try clear ho0)))
  go_ret2
  exact ⟨z6_, z5_⟩

/-! ### spec_l1Cur_one: function 76 -/
def spec_l1Cur_one.f (s0_0 : List Int) (s0_1 : Int) (s0_2 : Int) (a1 : Int) : Option (Bool × Int × Int) := (spec_l1Cur_pick.f s0_0 s0_1 s0_2 a1).bind fun bt315 => (some ((bt315.1 == 0), bt315.2.1, bt315.2.2))
set_option maxHeartbeats 8000000 in
set_option maxRecDepth 100000 in
theorem spec_l1Cur_one.calls (g : Nat) (s0_0 : List Int) (s0_1 : Int) (s0_2 : Int) (a1 : Int) (r1 : Bool) (r2 : Int) (r3 : Int) (w0 w : World) (hI : IsS68 w0 w g s0_0 s0_1 s0_2) (hB : Below w0.heap.size w0 w) (h : spec_l1Cur_one.f s0_0 s0_1 s0_2 a1 = some (r1, r2, r3)) :
  Calls Tryz.prog 76 #[.pointer (some ⟨g, 0, none⟩), .int .i64 a1] w fun e w' => e = .returned (.bool r1) ∧ IsS68 w0 w' g s0_0 r2 r3 ∧ Below w0.heap.size w0 w' ∧ KeepBut w w' g none := by
 have HI0 := Aside0.mk hI
 have HK := Aside0.mk (KeepBut.refl w g none)
 have HL := Aside0.mk hB.size; clear hI; have HW0 := Aside0.mk hB.size; have HB := Aside0.mk hB; clear hB
 have H : ((spec_l1Cur_pick.f s0_0 s0_1 s0_2 a1).bind fun bt315 => (some ((bt315.1 == 0), bt315.2.1, bt315.2.2))) = some (r1, r2, r3) := h
 clear h; replace H := Option.bind_eq_some_iff.mp H; obtain ⟨⟨t315, t316, t317⟩, A30, H⟩ := H
 replace H : (some ((t315 == 0), t316, t317)) = some (r1, r2, r3) := H
 have A3 := Aside0.mk A30; clear A30
 simp only [Option.some.injEq, Prod.mk.injEq] at H
 obtain ⟨rfl, rfl, rfl⟩ := H
 go_enter Tryz.func76, Tryz.ntmps76
 go_wp2_with (first | ((with_reducible refine gate_callee (f := 73) rfl ?_); refine goesL_ (some 7) rfl rfl Tryz.func73 (by kernel_rfl) rfl #[.pointer (some ⟨g, 0, none⟩), .int .i64 a1] rfl gl_ ?_; (with_reducible refine (spec_l1Cur_pick.calls g s0_0 s0_1 s0_2 a1 t315 t316 t317 w0 _ ?side1 ?side2 A3.out).mono ?_); (case side1 => exact z3_); (case side2 => exact z9_); rintro e w4 ⟨rfl, hi, hb, hk⟩; refine ⟨_, rfl, ?_⟩; have n0_ := Aside0.mk (KeepBut.trans z4_ hk (.inl rfl)); have n1_ := Aside0.mk (hb); have n2_ := Aside0.mk (hi); clear HK; clear HB; clear HI0; have HK := n0_; have HB := n1_; have HI0 := n2_; clear n0_ n1_ n2_; (try clear hb); (try clear hk); (try clear hi)))
 go_ret
 exact ⟨z6_, z3_, z9_, z4_⟩

/-! ### spec_l1Cur_team: function 53 -/
def spec_l1Cur_team.l0 : Nat → List (S41) → List Int → Int → List Int → Int → Int → Option (List Int × Int × Int)
 | 0, _, _, _, _, _, _ => none
 | k + 1, x1, x5, x6, x1000, x1001, x1002 => if x6 < (x1.length : Int) then ((spec_l1Cur_one.f x1000 x1001 x1002 2).bind fun bt321 => (if bt321.1 = true then (if 0 ≤ x6 then (if x5.length < 17592186044416 then (spec_l1Cur_team.l0 k x1 (x5 ++ [(rd_T41 x1 x6).f0]) (wrap64 (x6 + 1)) x1000 bt321.2.1 bt321.2.2) else (none)) else (none)) else (spec_l1Cur_team.l0 k x1 x5 (wrap64 (x6 + 1)) x1000 bt321.2.1 bt321.2.2))) else ((spec_l1Cur_pick.f x1000 x1001 x1002 24).bind fun bt328 => (if bt328.1 = 0 then ((spec_l1Cur_among.f x1000 bt328.2.1 bt328.2.2 (([0, 1, 98] : List Int))).bind fun bt334 => (if x5.length < 17592186044416 then (some ((x5 ++ [bt334.1]), bt334.2.1, bt334.2.2)) else (none))) else (if bt328.1 = 1 then (if (x5.length : Int) > 1 then (if 1 < (x5.length : Int) then (if 0 < (x5.length : Int) then (some ((x5.set (0 : Int).toNat (rd x5 1)), bt328.2.1, bt328.2.2)) else (none)) else (none)) else (some (x5, bt328.2.1, bt328.2.2))) else (some (x5, bt328.2.1, bt328.2.2)))))
def spec_l1Cur_team.f (k : Nat) (s0_0 : List Int) (s0_1 : Int) (s0_2 : Int) (l1 : List (S41)) : Option (List Int × Int × Int) := spec_l1Cur_team.l0 k l1 (([] : List Int)) 0 s0_0 s0_1 s0_2
set_option maxHeartbeats 8000000 in
set_option maxRecDepth 100000 in
theorem spec_l1Cur_team.calls (k : Nat) (g : Nat) (s0_0 : List Int) (s0_1 : Int) (s0_2 : Int) (A1 : Option Addr) (c1 : Nat) (l1 : List (S41)) (r1 : List Int) (r2 : Int) (r3 : Int) (w0 w : World) (hI : IsS68 w0 w g s0_0 s0_1 s0_2) (hB : Below w0.heap.size w0 w) (hr1 : ∀ W_, KeepBut w W_ g none → Kd.C k41 W_ A1 l1.length l1) (hc1 : l1.length ≤ c1) (h : spec_l1Cur_team.f k s0_0 s0_1 s0_2 l1 = some (r1, r2, r3)) :
  Calls Tryz.prog 53 #[.pointer (some ⟨g, 0, none⟩), .slice A1 l1.length c1] w fun e w' => ∃ v0_ : Value, e = .returned (v0_) ∧ Kd.R (Kd.int .i64) 3 w' w.heap.size (fun _ => True) v0_ r1 ∧ IsS68 w0 w' g s0_0 r2 r3 ∧ Below w0.heap.size w0 w' ∧ KeepBut w w' g none := by
 have HR1 := Aside0.mk hr1; have HC1 := Aside0.mk hc1; clear hr1 hc1; have HI0 := Aside0.mk hI
 have HK := Aside0.mk (KeepBut.refl w g none)
 have HL := Aside0.mk hB.size; clear hI; have HW0 := Aside0.mk hB.size; have HB := Aside0.mk hB; clear hB
 have H : (spec_l1Cur_team.l0 k l1 (([] : List Int)) 0 s0_0 s0_1 s0_2) = some (r1, r2, r3) := h
 clear h
 obtain ⟨y318, hy318⟩ : ∃ y_ : List Int, y_ = (([] : List Int)) := ⟨_, rfl⟩
 replace H : (spec_l1Cur_team.l0 k l1 y318 0 s0_0 s0_1 s0_2) = some (r1, r2, r3) := by first | (rw [hy318]; with_reducible exact H) | (have H2_ := (Option.bind_some _ _).symm.trans H; rw [hy318]; with_reducible exact H2_) | (have H2_ := (Option.bind_some _ _).symm.trans H; with_reducible exact H2_) | with_reducible exact H | (rw [hy318]; exact H) | exact H
 have Ny318 := Aside0.mk hy318; clear hy318
 have H' := Aside0.mk H
 clear H
 go_enter Tryz.func53, Tryz.ntmps53
 go_wp2_with (first | ((with_reducible refine gate_dst (N := 7) rfl ?_); refine Kd.R_lit (Kd.int .i64) _ 3 ?hg (N := 7) ?hd (xs := ([] : List Int)) (inner := []) (ok := fun _ => True) (okp := fun _ => True) ?hr ?hp (fun _ hk => hk) trivial (Below.refl _ _) (Nat.le_refl _) (by simp) ?_; (case hd => rfl); (case hg => rfl); (case hr => first | (go_simp; done) | (go_simp; rfl)); (case hp => exact (Reps.none _ _)); intro v319 w3 ho4 hb hg_ hnew_; clear hg_ hnew_; (first | rw [← Ny318.out] at ho4 | (simp only [Int.reduceToNat] at ho4; rw [← Ny318.out] at ho4)); have n0_ := Aside0.mk (Kd.R_lower ho4 (keep_size (w := w) (g := g) (row := none) z4_)); have n1_ := Aside0.mk (IsS68.below z3_ hb); have n2_ := Aside0.mk (KeepBut.trans z4_ (KeepBut.of_below hb g none) (.inl rfl)); have n3_ := Aside0.mk (below_step z9_ hb); clear HI0; clear HK; clear HB; have HO320 := n0_; have HI0 := n1_; have HK := n2_; have HB := n3_; clear n0_ n1_ n2_ n3_; clear hb ho4))
 go_loopg [5, 6] k (fun kq v5 v6 w' => ∃ (x5_1 : List Int) (x6_1 : Int) (x1001_1 : Int) (x1002_1 : Int), v6 = .int .i64 x6_1 ∧ Aside0 (spec_l1Cur_team.l0 kq l1 x5_1 x6_1 s0_0 x1001_1 x1002_1 = some (r1, r2, r3)) ∧ Aside0 (kq ≤ k) ∧ Aside0 (Kd.R (Kd.int .i64) 3 w' w.heap.size (fun _ => True) v5 x5_1) ∧ Aside0 (IsS68 w0 w' g s0_0 x1001_1 x1002_1) ∧ Aside0 (KeepBut w w' g none) ∧ Aside0 (Below w0.heap.size w0 w'))
 case atStart => exact ⟨(y318), (0), (s0_1), (s0_2), z2_, H', ⟨Nat.le_refl _⟩, ⟨by (with_reducible repeat (first | apply Kd.R_alloc | apply Kd.R_drewN | apply Kd.R_drew)); exact HO320.out⟩, ⟨z3_⟩, ⟨z4_⟩, ⟨z9_⟩⟩
 case round =>
  clear H'
  (try clear c1); obtain ⟨x5_1, x6_1, x1001_1, x1002_1, rfl, HA, HK1, HO_5, HI0, HK, HB⟩ := hrel
  cases gk with
  | zero => exact absurd HA.out (by simp [spec_l1Cur_team.l0])
  | succ k1 =>
   have H := HA.out; clear HA
   simp only [spec_l1Cur_team.l0] at H
   by_cases c5 : x6_1 < (l1.length : Int)
   ·rw [if_pos c5] at H
    have c5b0 : decide (x6_1 < (l1.length : Int)) = true := decide_eq_true c5
    clear c5; replace H := Option.bind_eq_some_iff.mp H; obtain ⟨⟨t321, t322, t323⟩, A60, H⟩ := H
    replace H : (if t321 = true then (if 0 ≤ x6_1 then (if x5_1.length < 17592186044416 then (spec_l1Cur_team.l0 k1 l1 (x5_1 ++ [(rd_T41 l1 x6_1).f0]) (wrap64 (x6_1 + 1)) s0_0 t322 t323) else (none)) else (none)) else (spec_l1Cur_team.l0 k1 l1 x5_1 (wrap64 (x6_1 + 1)) s0_0 t322 t323)) = some (r1, r2, r3) := H
    have A6 := Aside0.mk A60; clear A60
    by_cases c7 : t321 = true
    ·subst c7
     have H1 : (if 0 ≤ x6_1 then (if x5_1.length < 17592186044416 then (spec_l1Cur_team.l0 k1 l1 (x5_1 ++ [(rd_T41 l1 x6_1).f0]) (wrap64 (x6_1 + 1)) s0_0 t322 t323) else (none)) else (none)) = some (r1, r2, r3) := by rw [if_pos rfl] at H; exact H
     clear H; have H := H1; clear H1
     by_cases c8 : 0 ≤ x6_1
     ·rw [if_pos c8] at H
      have c8b0 : decide (0 ≤ x6_1) = true := decide_eq_true c8
      clear c8
      by_cases c9 : x5_1.length < 17592186044416
      ·rw [if_pos c9] at H
       have LMc9 := Aside0.mk c9; clear c9
       obtain ⟨y325, hy325⟩ : ∃ y_ : List Int, y_ = (x5_1 ++ [(rd_T41 l1 x6_1).f0]) := ⟨_, rfl⟩
       replace H : (spec_l1Cur_team.l0 k1 l1 y325 (wrap64 (x6_1 + 1)) s0_0 t322 t323) = some (r1, r2, r3) := by first | (rw [hy325]; with_reducible exact H) | (have H2_ := (Option.bind_some _ _).symm.trans H; rw [hy325]; with_reducible exact H2_) | (have H2_ := (Option.bind_some _ _).symm.trans H; with_reducible exact H2_) | with_reducible exact H | (rw [hy325]; exact H) | exact H
       have Ny325 := Aside0.mk hy325; clear hy325
       have H' := Aside0.mk H
       clear H
       go_wp2_with (first | ((with_reducible refine gate_callee (f := 76) rfl ?_); refine goesL_ (some 15) rfl rfl Tryz.func76 (by kernel_rfl) rfl #[.pointer (some ⟨g, 0, none⟩), .int .i64 2] rfl gl_ ?_; (with_reducible refine (spec_l1Cur_one.calls g s0_0 x1001_1 x1002_1 2 true t322 t323 w0 _ ?side1 ?side2 A6.out).mono ?_); (case side1 => exact z3_); (case side2 => exact z9_); rintro e w10 ⟨rfl, hi, hb, hk⟩; refine ⟨_, rfl, ?_⟩; have n0_ := Aside0.mk (Kd.R_mono (Kd.R_keep (IsS68.apart (show IsS68 w0 _ g s0_0 x1001_1 x1002_1 from z3_) (kr_ HO_5) (by decide)) hk (fun _ h => h.2)) (fun _ h => h.1)); have n1_ := Aside0.mk (KeepBut.trans z4_ hk (.inl rfl)); have n2_ := Aside0.mk (hb); have n3_ := Aside0.mk (hi); clear HO_5; clear HK; clear HB; clear HI0; have HO_5 := n0_; have HK := n1_; have HB := n2_; have HI0 := n3_; clear n0_ n1_ n2_ n3_; (try clear hb); (try clear hk); (try clear hi); have p324 : 0 ≤ (x6_1 : Int) := od_; have q324 : x6_1 < (l1.length : Int) := od_; obtain ⟨ad324, e324, hx324_0, hx324_1, hx324_2, hx324_3⟩ := at_T41 (Kd.C_foot_now HR1.out HK.out) x6_1 p324 q324; cases e324; replace p324 := eq_true p324; replace q324 := eq_true q324) | ((with_reducible refine gate_builtin (b := .append) (xs := #[.tmp 16, .tmp 22]) rfl ?_); at_builtin; refine Kd.R_append (Kd.int .i64) w.heap.size rfl (.tmp 16) (.tmp 22) 27 3 (.int .i64 0) 8 rfl Tryz.underlying27 info3 rfl (by decide) (by omega) u5 x5_1 ((rd_T41 l1 x6_1).f0) [.int .i64 ((rd_T41 l1 x6_1).f0)] (fun _ => True) (fun _ => False) rfl rfl ?aP (fun _ hk => hk.elim) ?aF ?aO (Below.refl _ _) ?aS ?aL ?_; (case aP => exact rfl); (case aF => exact (fun _ _ => trivial)); (case aO => exact (kr_ HO_5)); (case aS => exact (keep_size (w := w) (g := g) (row := none) z4_)); (case aL => have := LMc9.out; omega); intro v326 w11 ho hb hg hat; rw [← Ny325.out] at ho; have n0_ := Aside0.mk (IsS68.grown z3_ hg (IsS68.own_ne HI0.out HO_5.out (by decide))); have n1_ := Aside0.mk (below_weaken z9_ HL.out hb); have n2_ := Aside0.mk (KeepBut.trans z4_ (KeepBut.of_grown hg g) (Kd.R_base2 HO_5.out)); have n3_ := Aside0.mk (ho); clear HI0; clear HB; clear HK; clear HO_5; have HI0 := n0_; have HB := n1_; have HK := n2_; have HO327 := n3_; clear n0_ n1_ n2_ n3_; clear ho hb hg hat))
       go_roundg k1
       case measure => have := HK1.out; omega
       case rel => exact ⟨(y325), (wrap64 (x6_1 + 1)), (t322), (t323), z2_, H', ⟨by have := HK1.out; omega⟩, ⟨by (with_reducible repeat (first | apply Kd.R_alloc | apply Kd.R_drewN | apply Kd.R_drew)); exact HO327.out⟩, ⟨z3_⟩, ⟨z4_⟩, ⟨z9_⟩⟩
      ·rw [if_neg c9] at H
       exact absurd H (by simp)
     ·rw [if_neg c8] at H
      exact absurd H (by simp)
    ·replace c7 := Bool.eq_false_iff.mpr c7
     subst c7
     have H1 : (spec_l1Cur_team.l0 k1 l1 x5_1 (wrap64 (x6_1 + 1)) s0_0 t322 t323) = some (r1, r2, r3) := by rw [if_neg (show ¬ (false = true) by decide)] at H; exact H
     clear H; have H := H1; clear H1
     have H' := Aside0.mk H
     clear H
     go_wp2_with (first | ((with_reducible refine gate_callee (f := 76) rfl ?_); refine goesL_ (some 15) rfl rfl Tryz.func76 (by kernel_rfl) rfl #[.pointer (some ⟨g, 0, none⟩), .int .i64 2] rfl gl_ ?_; (with_reducible refine (spec_l1Cur_one.calls g s0_0 x1001_1 x1002_1 2 false t322 t323 w0 _ ?side1 ?side2 A6.out).mono ?_); (case side1 => exact z3_); (case side2 => exact z9_); rintro e w12 ⟨rfl, hi, hb, hk⟩; refine ⟨_, rfl, ?_⟩; have n0_ := Aside0.mk (Kd.R_mono (Kd.R_keep (IsS68.apart (show IsS68 w0 _ g s0_0 x1001_1 x1002_1 from z3_) (kr_ HO_5) (by decide)) hk (fun _ h => h.2)) (fun _ h => h.1)); have n1_ := Aside0.mk (KeepBut.trans z4_ hk (.inl rfl)); have n2_ := Aside0.mk (hb); have n3_ := Aside0.mk (hi); clear HO_5; clear HK; clear HB; clear HI0; have HO_5 := n0_; have HK := n1_; have HB := n2_; have HI0 := n3_; clear n0_ n1_ n2_ n3_; (try clear hb); (try clear hk); (try clear hi)))
     go_roundg k1
     case measure => have := HK1.out; omega
     case rel => exact ⟨(x5_1), (wrap64 (x6_1 + 1)), (t322), (t323), z2_, H', ⟨by have := HK1.out; omega⟩, ⟨z26_⟩, ⟨z3_⟩, ⟨z4_⟩, ⟨z9_⟩⟩
   ·rw [if_neg c5] at H
    have c5b0 : decide (x6_1 < (l1.length : Int)) = false := decide_eq_false c5
    clear c5; replace H := Option.bind_eq_some_iff.mp H; obtain ⟨⟨t328, t329, t330⟩, A130, H⟩ := H
    replace H : (if t328 = 0 then ((spec_l1Cur_among.f s0_0 t329 t330 (([0, 1, 98] : List Int))).bind fun bt334 => (if x5_1.length < 17592186044416 then (some ((x5_1 ++ [bt334.1]), bt334.2.1, bt334.2.2)) else (none))) else (if t328 = 1 then (if (x5_1.length : Int) > 1 then (if 1 < (x5_1.length : Int) then (if 0 < (x5_1.length : Int) then (some ((x5_1.set (0 : Int).toNat (rd x5_1 1)), t329, t330)) else (none)) else (none)) else (some (x5_1, t329, t330))) else (some (x5_1, t329, t330)))) = some (r1, r2, r3) := H
    have A13 := Aside0.mk A130; clear A130
    by_cases c14 : t328 = 0
    ·rw [if_pos c14] at H
     have c14b0 : (t328 == 0) = true := beq_iff_eq.mpr c14
     have c14b1 : (t328 != 0) = false := bne_eq_false_iff_eq.mpr c14
     clear c14
     obtain ⟨y331, hy331⟩ : ∃ y_ : List Int, y_ = (([0, 1, 98] : List Int)) := ⟨_, rfl⟩
     replace H : ((spec_l1Cur_among.f s0_0 t329 t330 y331).bind fun bt334 => (if x5_1.length < 17592186044416 then (some ((x5_1 ++ [bt334.1]), bt334.2.1, bt334.2.2)) else (none))) = some (r1, r2, r3) := by first | (rw [hy331]; with_reducible exact H) | (have H2_ := (Option.bind_some _ _).symm.trans H; rw [hy331]; with_reducible exact H2_) | (have H2_ := (Option.bind_some _ _).symm.trans H; with_reducible exact H2_) | with_reducible exact H | (rw [hy331]; exact H) | exact H
     have Ny331 := Aside0.mk hy331; clear hy331; replace H := Option.bind_eq_some_iff.mp H; obtain ⟨⟨t334, t335, t336⟩, A150, H⟩ := H
     replace H : (if x5_1.length < 17592186044416 then (some ((x5_1 ++ [t334]), t335, t336)) else (none)) = some (r1, r2, r3) := H
     have A15 := Aside0.mk A150; clear A150
     by_cases c16 : x5_1.length < 17592186044416
     ·rw [if_pos c16] at H
      have LMc16 := Aside0.mk c16; clear c16
      obtain ⟨y337, hy337⟩ : ∃ y_ : List Int, y_ = (x5_1 ++ [t334]) := ⟨_, rfl⟩
      replace H : (some (y337, t335, t336)) = some (r1, r2, r3) := by first | (rw [hy337]; with_reducible exact H) | (have H2_ := (Option.bind_some _ _).symm.trans H; rw [hy337]; with_reducible exact H2_) | (have H2_ := (Option.bind_some _ _).symm.trans H; with_reducible exact H2_) | with_reducible exact H | (rw [hy337]; exact H) | exact H
      have Ny337 := Aside0.mk hy337; clear hy337
      simp only [Option.some.injEq, Prod.mk.injEq] at H
      obtain ⟨rfl, rfl, rfl⟩ := H
      go_wp2_with (first | ((with_reducible refine gate_callee (f := 73) rfl ?_); refine goesL_ (some 25) rfl rfl Tryz.func73 (by kernel_rfl) rfl #[.pointer (some ⟨g, 0, none⟩), .int .i64 24] rfl gl_ ?_; (with_reducible refine (spec_l1Cur_pick.calls g s0_0 x1001_1 x1002_1 24 t328 t329 t330 w0 _ ?side1 ?side2 A13.out).mono ?_); (case side1 => exact z3_); (case side2 => exact z9_); rintro e w17 ⟨rfl, hi, hb, hk⟩; refine ⟨_, rfl, ?_⟩; have n0_ := Aside0.mk (Kd.R_mono (Kd.R_keep (IsS68.apart (show IsS68 w0 _ g s0_0 x1001_1 x1002_1 from z3_) (kr_ HO_5) (by decide)) hk (fun _ h => h.2)) (fun _ h => h.1)); have n1_ := Aside0.mk (KeepBut.trans z4_ hk (.inl rfl)); have n2_ := Aside0.mk (hb); have n3_ := Aside0.mk (hi); clear HO_5; clear HK; clear HB; clear HI0; have HO_5 := n0_; have HK := n1_; have HB := n2_; have HI0 := n3_; clear n0_ n1_ n2_ n3_; (try clear hb); (try clear hk); (try clear hi)) | ((with_reducible refine gate_dst (N := 30) rfl ?_); refine Kd.R_lit (Kd.int .i64) _ 3 ?hg (N := 30) ?hd (xs := ([0, 1, 98] : List Int)) (inner := [.int .i64 0, .int .i64 1, .int .i64 98]) (ok := fun _ => True) (okp := fun _ => True) ?hr ?hp (fun _ hk => hk) trivial (Below.refl _ _) (Nat.le_refl _) (by simp) ?_; (case hd => rfl); (case hg => rfl); (case hr => first | (go_simp; done) | (go_simp; rfl)); (case hp => exact (Reps.one (show Kd.M (Kd.int .i64) _ _ _ 0 [.int .i64 0] from rfl) (Reps.one (show Kd.M (Kd.int .i64) _ _ _ 1 [.int .i64 1] from rfl) (Reps.one (show Kd.M (Kd.int .i64) _ _ _ 98 [.int .i64 98] from rfl) (Reps.none _ _))))); intro v332 w18 ho19 hb hg_ hnew_; clear hg_ hnew_; (first | rw [← Ny331.out] at ho19 | (simp only [Int.reduceToNat] at ho19; rw [← Ny331.out] at ho19)); have n0_ := Aside0.mk (Kd.R_elder' (kr_ HO_5) (Kd.R_base ho19) hb); have n1_ := Aside0.mk (Kd.R_lower (Kd.R_new' ho19 (Kd.R_lt (kr_ HO_5))) (keep_size (w := w) (g := g) (row := none) z4_)); have n2_ := Aside0.mk (IsS68.below z3_ hb); have n3_ := Aside0.mk (KeepBut.trans z4_ (KeepBut.of_below hb g none) (.inl rfl)); have n4_ := Aside0.mk (below_step z9_ hb); clear HO_5; clear HI0; clear HK; clear HB; have HO_5 := n0_; have HO333 := n1_; have HI0 := n2_; have HK := n3_; have HB := n4_; clear n0_ n1_ n2_ n3_ n4_; clear hb ho19; obtain ⟨Ao20, co20, eo20⟩ := Kd.R_slice HO333.out; subst eo20) | ((with_reducible refine gate_callee (f := 74) rfl ?_); refine goesL_ (some 31) rfl rfl Tryz.func74 (by kernel_rfl) rfl #[.pointer (some ⟨g, 0, none⟩), .slice Ao20 y331.length co20] rfl gl_ ?_; (with_reducible refine (spec_l1Cur_among.calls g s0_0 t329 t330 _ _ y331 t334 t335 t336 w0 _ ?side1 ?side2 ?side3 ?side4 ?side5 A15.out).mono ?_); (case side1 => exact z3_); (case side2 => exact z9_); (case side3 => repeat (first | exact (Kd.R_reads' HO333.out).2.2 | (with_reducible refine Kd.C_alloc ?_ _) | (with_reducible refine Kd.C_drewN ?_ _) | (with_reducible refine Kd.C_drew ?_))); (case side4 => exact (Kd.R_reads' HO333.out).2.1); (case side5 => exact far_slice (IsS68.own_ne HI0.out HO333.out (by decide))); rintro e w21 ⟨rfl, hi, hb, hk⟩; refine ⟨_, rfl, ?_⟩; have n0_ := Aside0.mk (Kd.R_mono (Kd.R_keep (IsS68.apart (show IsS68 w0 _ g s0_0 t329 t330 from z3_) (kr_ HO_5) (by decide)) hk (fun _ h => h.2)) (fun _ h => h.1)); have n1_ := Aside0.mk (Kd.R_mono (Kd.R_keep (IsS68.apart (show IsS68 w0 _ g s0_0 t329 t330 from z3_) (kr_ HO333) (by decide)) hk (fun _ h => h.2)) (fun _ h => h.1)); have n2_ := Aside0.mk (KeepBut.trans z4_ hk (.inl rfl)); have n3_ := Aside0.mk (hb); have n4_ := Aside0.mk (hi); clear HO_5; clear HO333; clear HK; clear HB; clear HI0; have HO_5 := n0_; have HO333 := n1_; have HK := n2_; have HB := n3_; have HI0 := n4_; clear n0_ n1_ n2_ n3_ n4_; (try clear hb); (try clear hk); (try clear hi)) | ((with_reducible refine gate_builtin (b := .append) (xs := #[.tmp 28, .tmp 32]) rfl ?_); at_builtin; refine Kd.R_append (Kd.int .i64) w.heap.size rfl (.tmp 28) (.tmp 32) 27 3 (.int .i64 0) 8 rfl Tryz.underlying27 info3 rfl (by decide) (by omega) u5 x5_1 t334 [.int .i64 t334] (fun k_ => some k_ ≠ (.slice Ao20 y331.length co20 : Value).ownBlock) (fun _ => False) rfl rfl ?aP (fun _ hk => hk.elim) ?aF ?aO (Below.refl _ _) ?aS ?aL ?_; (case aP => exact rfl); (case aF => exact (fun k_ hk => Kd.fresh' (Kd.R_lt (kr_ HO333)) k_ hk)); (case aO => exact (by (with_reducible repeat (first | apply Kd.R_alloc | apply Kd.R_drewN | apply Kd.R_drew)); exact Kd.R_mono HO_5.out (fun _ hk => hk.2))); (case aS => exact (keep_size (w := w) (g := g) (row := none) z4_)); (case aL => have := LMc16.out; omega); intro v338 w22 ho hb hg hat; rw [← Ny337.out] at ho; have n0_ := Aside0.mk (IsS68.grown z3_ hg (IsS68.own_ne HI0.out HO_5.out (by decide))); have n1_ := Aside0.mk (Kd.R_after (ok := (fun _ => True)) (kr_ HO333) hg hat); have n2_ := Aside0.mk (below_weaken z9_ HL.out hb); have n3_ := Aside0.mk (KeepBut.trans z4_ (KeepBut.of_grown hg g) (Kd.R_base2 HO_5.out)); have n4_ := Aside0.mk (ho); clear HI0; clear HO333; clear HB; clear HK; clear HO_5; have HI0 := n0_; have HO333 := n1_; have HB := n2_; have HK := n3_; have HO339 := n4_; clear n0_ n1_ n2_ n3_ n4_; clear ho hb hg hat))
      go_ret
      exact ⟨_, z6_, by (with_reducible repeat (first | apply Kd.R_alloc | apply Kd.R_drewN | apply Kd.R_drew)); exact Kd.R_mono HO339.out (fun _ hk => trivial), z3_, z9_, z4_⟩
     ·rw [if_neg c16] at H
      exact absurd H (by simp)
    ·rw [if_neg c14] at H
     have c14b0 : (t328 == 0) = false := beq_eq_false_iff_ne.mpr c14
     have c14b1 : (t328 != 0) = true := bne_iff_ne.mpr c14
     by_cases c23 : t328 = 1
     ·rw [if_pos c23] at H
      have c23b0 : (t328 == 1) = true := beq_iff_eq.mpr c23
      have c23b1 : (t328 != 1) = false := bne_eq_false_iff_eq.mpr c23
      clear c23
      by_cases c24 : (x5_1.length : Int) > 1
      ·rw [if_pos c24] at H
       have c24b0 : decide (1 < (x5_1.length : Int)) = true := decide_eq_true c24
       have c24b1 : decide (1 < x5_1.length) = true := decide_eq_true (by omega)
       clear c24
       by_cases c25 : 1 < (x5_1.length : Int)
       ·rw [if_pos c25] at H
        have c25b0 : decide (1 < (x5_1.length : Int)) = true := decide_eq_true c25
        have c25b1 : decide (1 < x5_1.length) = true := decide_eq_true (by omega)
        clear c25
        by_cases c26 : 0 < (x5_1.length : Int)
        ·rw [if_pos c26] at H
         have c26b0 : decide (0 < (x5_1.length : Int)) = true := decide_eq_true c26
         have c26b1 : decide (0 < x5_1.length) = true := decide_eq_true (by omega)
         clear c26
         obtain ⟨y341, hy341⟩ : ∃ y_ : List Int, y_ = (x5_1.set (0 : Int).toNat (rd x5_1 1)) := ⟨_, rfl⟩
         replace H : (some (y341, t329, t330)) = some (r1, r2, r3) := by first | (rw [hy341]; with_reducible exact H) | (have H2_ := (Option.bind_some _ _).symm.trans H; rw [hy341]; with_reducible exact H2_) | (have H2_ := (Option.bind_some _ _).symm.trans H; with_reducible exact H2_) | with_reducible exact H | (rw [hy341]; exact H) | exact H
         have Ny341 := Aside0.mk hy341; clear hy341
         simp only [Option.some.injEq, Prod.mk.injEq] at H
         obtain ⟨rfl, rfl, rfl⟩ := H
         go_wp2_with (first | ((with_reducible refine gate_callee (f := 73) rfl ?_); refine goesL_ (some 25) rfl rfl Tryz.func73 (by kernel_rfl) rfl #[.pointer (some ⟨g, 0, none⟩), .int .i64 24] rfl gl_ ?_; (with_reducible refine (spec_l1Cur_pick.calls g s0_0 x1001_1 x1002_1 24 t328 t329 t330 w0 _ ?side1 ?side2 A13.out).mono ?_); (case side1 => exact z3_); (case side2 => exact z9_); rintro e w28 ⟨rfl, hi, hb, hk⟩; refine ⟨_, rfl, ?_⟩; have n0_ := Aside0.mk (Kd.R_mono (Kd.R_keep (IsS68.apart (show IsS68 w0 _ g s0_0 x1001_1 x1002_1 from z3_) (kr_ HO_5) (by decide)) hk (fun _ h => h.2)) (fun _ h => h.1)); have n1_ := Aside0.mk (KeepBut.trans z4_ hk (.inl rfl)); have n2_ := Aside0.mk (hb); have n3_ := Aside0.mk (hi); clear HO_5; clear HK; clear HB; clear HI0; have HO_5 := n0_; have HK := n1_; have HB := n2_; have HI0 := n3_; clear n0_ n1_ n2_ n3_; (try clear hb); (try clear hk); (try clear hi); obtain ⟨Ao29, co29, eo29⟩ := Kd.R_slice HO_5.out; subst eo29; have p340 : 0 ≤ (1 : Int) := (by omega); have q340 : 1 < (x5_1.length : Int) := od_; obtain ⟨ad340, e340, hx340_0⟩ := Kd.at_int (Kd.R_reads' HO_5.out).2.2 1 p340 q340; cases e340; (try simp only [show (1 : Int).toNat = 1 from rfl, Nat.reduceMul, Nat.reduceEqDiff, Go.Addr.add, ↓reduceIte] at hx340_0); have qi340 : (1 < x5_1.length) = True := eq_true (by omega); (try rw [show ((1 : Int)).toNat = 1 from rfl] at hx340_0); replace p340 := eq_true p340; replace q340 := eq_true q340; have p27 : 0 ≤ (0 : Int) := (by omega); have q27 : (0 : Int) < ((x5_1.length : Int) : Int) := od_; have qi27 : (0 < x5_1.length) = True := eq_true (by omega); obtain ⟨go27, co27, eo27, gb27, gl27, cl27, HG27⟩ := Kd.R_form HO_5.out (by omega); (first | cases eo27 | (injection eo27 with ea_ en_ ec_; (first | subst ea_ | (injection ea_ with ea_; subst ea_)); subst ec_; clear en_)); have GB27 := Aside0.mk gb27; have GG27 := Aside0.mk HG27; clear gb27 gl27 HG27; (first | simp only [add_plain] at hx340_0 | skip); obtain ⟨hx27_0, hf27_0⟩ := Kd.R_celln 0 HO_5.out (0 : Int) p27 q27; (try rw [show ((0 : Int)).toNat = 0 from rfl] at hx27_0); (try simp only [Nat.reduceMul, Nat.zero_mul, Nat.zero_add, Nat.reduceAdd] at hx27_0); (try rw [show ((0 : Int)).toNat = 0 from rfl] at hf27_0); (try simp only [Nat.reduceMul, Nat.zero_mul, Nat.zero_add, Nat.reduceAdd] at hf27_0); replace p27 := eq_true p27; replace q27 := eq_true q27; obtain ⟨hy30_, hz30_⟩ := Kd.R_celln 0 HO_5.out (0 : Int) (by omega) (od_); (try simp only [Int.reduceToNat, Int.toNat_zero, Int.toNat_ofNat, Nat.reduceMul, Nat.zero_mul, Nat.zero_add] at hy30_ hz30_); (try rw [show ((0 : Int)).toNat = 0 from rfl] at hy30_); (try rw [show ((0 : Int)).toNat = 0 from rfl] at hz30_); have HP30 := Kd.R_putg HO_5.out (0 : Int) (rd x5_1 1)) | ((with_reducible refine gate_store (t := 3) (p := 43) rfl ?_); refine store_event (t := 3) (p := 43) (v := ?vo_w31) (w1 := (w28.setCell ⟨go27, (0 : Int).toNat, none⟩ (.int .i64 (rd x5_1 1)))) ?hg ?ho ?hn ?hr ?_; (case ho => rfl); (case hg => rfl); (case hn => rfl); (case hr => first | (go_simp; done) | (go_simp; rfl)); intro w31 hw; have hg : w28.grownBy w31 (some go27) := (by rw [hw]; exact HP30.2); have hp_ : Kd.R (Kd.int .i64) 3 w31 w.heap.size (fun _ => True) (.slice (some ⟨go27, 0, none⟩) x5_1.length co29) y341 := (by rw [hw, Ny341.out]; exact HP30.1); clear HP30; have n0_ := Aside0.mk (hp_); have n1_ := Aside0.mk (IsS68.grown z3_ hg (IsS68.own_ne HI0.out HO_5.out (by decide))); have n2_ := Aside0.mk ((by rw [hw]; exact below_set (HB.out) (Nat.le_trans HL.out GB27.out) : Below w0.heap.size w0 w31)); have n3_ := Aside0.mk (KeepBut.trans z4_ (KeepBut.of_grown hg g) (Kd.R_base2 HO_5.out)); clear HO_5; clear HI0; clear HB; clear HK; have HO_5 := n0_; have HI0 := n1_; have HB := n2_; have HK := n3_; clear n0_ n1_ n2_ n3_; clear hg hw hp_))
         go_ret
         exact ⟨_, z6_, z26_, z3_, z9_, z4_⟩
        ·rw [if_neg c26] at H
         exact absurd H (by simp)
       ·rw [if_neg c25] at H
        exact absurd H (by simp)
      ·rw [if_neg c24] at H
       have c24b0 : decide (1 < (x5_1.length : Int)) = false := decide_eq_false c24
       have c24b1 : decide (1 < x5_1.length) = false := decide_eq_false (by omega)
       clear c24
       simp only [Option.some.injEq, Prod.mk.injEq] at H
       obtain ⟨rfl, rfl, rfl⟩ := H
       go_wp2_with (first | ((with_reducible refine gate_callee (f := 73) rfl ?_); refine goesL_ (some 25) rfl rfl Tryz.func73 (by kernel_rfl) rfl #[.pointer (some ⟨g, 0, none⟩), .int .i64 24] rfl gl_ ?_; (with_reducible refine (spec_l1Cur_pick.calls g s0_0 x1001_1 x1002_1 24 t328 t329 t330 w0 _ ?side1 ?side2 A13.out).mono ?_); (case side1 => exact z3_); (case side2 => exact z9_); rintro e w32 ⟨rfl, hi, hb, hk⟩; refine ⟨_, rfl, ?_⟩; have n0_ := Aside0.mk (Kd.R_mono (Kd.R_keep (IsS68.apart (show IsS68 w0 _ g s0_0 x1001_1 x1002_1 from z3_) (kr_ HO_5) (by decide)) hk (fun _ h => h.2)) (fun _ h => h.1)); have n1_ := Aside0.mk (KeepBut.trans z4_ hk (.inl rfl)); have n2_ := Aside0.mk (hb); have n3_ := Aside0.mk (hi); clear HO_5; clear HK; clear HB; clear HI0; have HO_5 := n0_; have HK := n1_; have HB := n2_; have HI0 := n3_; clear n0_ n1_ n2_ n3_; (try clear hb); (try clear hk); (try clear hi); obtain ⟨Ao33, co33, eo33⟩ := Kd.R_slice HO_5.out; subst eo33))
       go_ret
       exact ⟨_, z6_, z26_, z3_, z9_, z4_⟩
     ·rw [if_neg c23] at H
      have c23b0 : (t328 == 1) = false := beq_eq_false_iff_ne.mpr c23
      have c23b1 : (t328 != 1) = true := bne_iff_ne.mpr c23
      simp only [Option.some.injEq, Prod.mk.injEq] at H
      obtain ⟨rfl, rfl, rfl⟩ := H
      go_wp2_with (first | ((with_reducible refine gate_callee (f := 73) rfl ?_); refine goesL_ (some 25) rfl rfl Tryz.func73 (by kernel_rfl) rfl #[.pointer (some ⟨g, 0, none⟩), .int .i64 24] rfl gl_ ?_; (with_reducible refine (spec_l1Cur_pick.calls g s0_0 x1001_1 x1002_1 24 t328 t329 t330 w0 _ ?side1 ?side2 A13.out).mono ?_); (case side1 => exact z3_); (case side2 => exact z9_); rintro e w34 ⟨rfl, hi, hb, hk⟩; refine ⟨_, rfl, ?_⟩; have n0_ := Aside0.mk (Kd.R_mono (Kd.R_keep (IsS68.apart (show IsS68 w0 _ g s0_0 x1001_1 x1002_1 from z3_) (kr_ HO_5) (by decide)) hk (fun _ h => h.2)) (fun _ h => h.1)); have n1_ := Aside0.mk (KeepBut.trans z4_ hk (.inl rfl)); have n2_ := Aside0.mk (hb); have n3_ := Aside0.mk (hi); clear HO_5; clear HK; clear HB; clear HI0; have HO_5 := n0_; have HK := n1_; have HB := n2_; have HI0 := n3_; clear n0_ n1_ n2_ n3_; (try clear hb); (try clear hk); (try clear hi)))
      go_ret
      exact ⟨_, z6_, z26_, z3_, z9_, z4_⟩

/-! ### spec_DrawIsTeam_in: function 47 -/
def spec_DrawIsTeam_in.f (k : Nat) (s0_0 : List Int) (s0_1 : Int) (s0_2 : Int) : Option ((List (S41)) × List Int × Int × Int) := (spec_l1Cur_people.f k s0_0 s0_1 s0_2).bind fun bt342 => ((spec_l1Cur_team.f k s0_0 bt342.2.1 bt342.2.2 bt342.1).bind fun bt347 => (some (bt342.1, bt347.1, bt347.2.1, bt347.2.2)))
set_option maxHeartbeats 8000000 in
set_option maxRecDepth 100000 in
theorem spec_DrawIsTeam_in.calls (k : Nat) (A0 : Option Addr) (c0 : Nat) (l0 : List Int) (r1 : List (S41)) (r2 : List Int) (r3 : Int) (r4 : Int) (w : World) (hr0 : Kd.C (Kd.int .u8) w A0 l0.length l0) (hc0 : l0.length ≤ c0) (h : spec_DrawIsTeam_in.f k l0 0 0 = some (r1, r2, r3, r4)) :
  Calls Tryz.prog 47 #[.slice A0 l0.length c0] w fun e w' => ∃ v0_ v1_ : Value, e = .returned (.tuple #[v0_, v1_]) ∧ Kd.R k41 41 w' (w.alloc (.cells #[.slice A0 l0.length c0, .int .i64 0, .int .u64 0] 68)).heap.size (fun _ => True) v0_ r1 ∧ Kd.R (Kd.int .i64) 3 w' (w.alloc (.cells #[.slice A0 l0.length c0, .int .i64 0, .int .u64 0] 68)).heap.size (fun _ => True) v1_ r2 ∧ IsS68 w w' w.heap.size l0 r3 r4 ∧ Below w.heap.size w w' ∧ KeepBut (w.alloc (.cells #[.slice A0 l0.length c0, .int .i64 0, .int .u64 0] 68)) w' w.heap.size none := by
 have hI : IsS68 w (w.alloc (.cells #[.slice A0 l0.length c0, .int .i64 0, .int .u64 0] 68)) w.heap.size l0 0 0 := ⟨A0, c0, heap_alloc_new w _, Nat.le_refl _, hr0⟩
 have hB : Below w.heap.size w (w.alloc (.cells #[.slice A0 l0.length c0, .int .i64 0, .int .u64 0] 68)) := below_alloc (Below.refl _ _) _
 clear hr0; have HI0 := Aside0.mk hI
 have HK := Aside0.mk (KeepBut.refl (w.alloc (.cells #[.slice A0 l0.length c0, .int .i64 0, .int .u64 0] 68)) w.heap.size none)
 have HL := Aside0.mk hB.size; clear hI; have HW0 := Aside0.mk hB.size; have HB := Aside0.mk hB; clear hB
 have H : ((spec_l1Cur_people.f k l0 0 0).bind fun bt342 => ((spec_l1Cur_team.f k l0 bt342.2.1 bt342.2.2 bt342.1).bind fun bt347 => (some (bt342.1, bt347.1, bt347.2.1, bt347.2.2)))) = some (r1, r2, r3, r4) := h
 clear h; replace H := Option.bind_eq_some_iff.mp H; obtain ⟨⟨t342, t345, t346⟩, A20, H⟩ := H
 replace H : ((spec_l1Cur_team.f k l0 t345 t346 t342).bind fun bt347 => (some (t342, bt347.1, bt347.2.1, bt347.2.2))) = some (r1, r2, r3, r4) := H
 have A2 := Aside0.mk A20; clear A20; replace H := Option.bind_eq_some_iff.mp H; obtain ⟨⟨t347, t350, t351⟩, A30, H⟩ := H
 replace H : (some (t342, t347, t350, t351)) = some (r1, r2, r3, r4) := H
 have A3 := Aside0.mk A30; clear A30
 simp only [Option.some.injEq, Prod.mk.injEq] at H
 obtain ⟨rfl, rfl, rfl, rfl⟩ := H
 go_enter Tryz.func47, Tryz.ntmps47
 go_wp2_with (first | ((with_reducible refine gate_callee (f := 52) rfl ?_); refine goesL_ (some 10) rfl rfl Tryz.func52 (by kernel_rfl) rfl #[.pointer (some ⟨w.heap.size, 0, none⟩)] rfl gl_ ?_; (with_reducible refine (spec_l1Cur_people.calls k w.heap.size l0 0 0 t342 t345 t346 w _ ?side1 ?side2 A2.out).mono ?_); (case side1 => exact z3_); (case side2 => exact z9_); rintro e w4 ⟨v343, rfl, ho0, hi, hb, hk⟩; refine ⟨_, rfl, ?_⟩; have n0_ := Aside0.mk (Kd.R_lower ho0 (keep_size (w := (w.alloc (.cells #[.slice A0 l0.length c0, .int .i64 0, .int .u64 0] 68))) (g := w.heap.size) (row := none) z4_)); have n1_ := Aside0.mk (KeepBut.trans z4_ hk (.inl rfl)); have n2_ := Aside0.mk (hb); have n3_ := Aside0.mk (hi); clear HK; clear HB; clear HI0; have HO344 := n0_; have HK := n1_; have HB := n2_; have HI0 := n3_; clear n0_ n1_ n2_ n3_; (try clear hb); (try clear hk); (try clear hi); (try clear ho0); obtain ⟨Ao5, co5, eo5⟩ := Kd.R_slice HO344.out; subst eo5) | ((with_reducible refine gate_callee (f := 53) rfl ?_); refine goesL_ (some 14) rfl rfl Tryz.func53 (by kernel_rfl) rfl #[.pointer (some ⟨w.heap.size, 0, none⟩), .slice Ao5 t342.length co5] rfl gl_ ?_; (with_reducible refine (spec_l1Cur_team.calls k w.heap.size l0 t345 t346 _ _ t342 t347 t350 t351 w _ ?side1 ?side2 ?side3 ?side4 A3.out).mono ?_); (case side1 => exact z3_); (case side2 => exact z9_); (case side3 => exact Kd.C_foot_own (IsS68.apart (show IsS68 w _ w.heap.size l0 t345 t346 from z3_) (kr_ HO344) (by decide)) (fun _ h_ => h_.2)); (case side4 => exact (Kd.R_reads' HO344.out).2.1); rintro e w6 ⟨v348, rfl, ho0, hi, hb, hk⟩; refine ⟨_, rfl, ?_⟩; have n0_ := Aside0.mk (Kd.R_mono (Kd.R_keep (IsS68.apart (show IsS68 w _ w.heap.size l0 t345 t346 from z3_) (kr_ HO344) (by decide)) hk (fun _ h => h.2)) (fun _ h => h.1)); have n1_ := Aside0.mk (Kd.R_lower ho0 (keep_size (w := (w.alloc (.cells #[.slice A0 l0.length c0, .int .i64 0, .int .u64 0] 68))) (g := w.heap.size) (row := none) z4_)); have n2_ := Aside0.mk (KeepBut.trans z4_ hk (.inl rfl)); have n3_ := Aside0.mk (hb); have n4_ := Aside0.mk (hi); clear HO344; clear HK; clear HB; clear HI0; have HO344 := n0_; have HO349 := n1_; have HK := n2_; have HB := n3_; have HI0 := n4_; clear n0_ n1_ n2_ n3_ n4_; (try clear hb); (try clear hk); (try clear hi); (try clear ho0)))
 go_ret2
 exact ⟨_, _, z6_, by (with_reducible repeat (first | apply Kd.R_alloc | apply Kd.R_drewN | apply Kd.R_drew)); exact HO344.out, by (with_reducible repeat (first | apply Kd.R_alloc | apply Kd.R_drewN | apply Kd.R_drew)); exact HO349.out, z3_, z9_, z4_⟩

/-! ### spec_DrawIsTeam: function 47 -/
def spec_DrawIsTeam.f (k : Nat) (l0 : List Int) : Option ((List (S41)) × List Int) := (spec_DrawIsTeam_in.f k l0 0 0).bind fun t => some (t.1, t.2.1)
theorem spec_DrawIsTeam.calls (k : Nat) (A0 : Option Addr) (c0 : Nat) (l0 : List Int) (r1 : List (S41)) (r2 : List Int) (w : World) (hr0 : Kd.C (Kd.int .u8) w A0 l0.length l0) (hc0 : l0.length ≤ c0) (h : spec_DrawIsTeam.f k l0 = some (r1, r2)) :
  Calls Tryz.prog 47 #[.slice A0 l0.length c0] w fun e w' => ∃ v0_ v1_ : Value, e = .returned (.tuple #[v0_, v1_]) ∧ Kd.R k41 41 w' w.heap.size (fun _ => True) v0_ r1 ∧ Kd.R (Kd.int .i64) 3 w' w.heap.size (fun _ => True) v1_ r2 ∧ Below w.heap.size w w' := by
 unfold spec_DrawIsTeam.f at h
 obtain ⟨⟨r1, r2, r3, r4⟩, h1, h2⟩ := Option.bind_eq_some_iff.mp h
 simp only [Option.some.injEq, Prod.mk.injEq] at h2
 obtain ⟨rfl, rfl⟩ := h2
 refine (spec_DrawIsTeam_in.calls k A0 c0 l0 r1 r2 r3 r4 w hr0 hc0 h1).mono ?_
 rintro e w' ⟨v0_, v1_, he_, h1_, h2_, _, hb_, _⟩
 exact ⟨v0_, v1_, he_, Kd.R_lower h1_ (below_size (below_alloc (Below.refl _ w) _)), Kd.R_lower h2_ (below_size (below_alloc (Below.refl _ w) _)), hb_⟩

/-! ### spec_DrawGoOnTrip: function 12 -/
def spec_DrawGoOnTrip.f (k : Nat) (l0 : List Int) : Option ((List (S41)) × List Int) := (spec_DrawIsTeam.f k l0).bind fun bt352 => (some (bt352.1, bt352.2))
set_option maxHeartbeats 8000000 in
set_option maxRecDepth 100000 in
theorem spec_DrawGoOnTrip.calls (k : Nat) (A0 : Option Addr) (c0 : Nat) (l0 : List Int) (r1 : List (S41)) (r2 : List Int) (w : World) (hr0 : Kd.C (Kd.int .u8) w A0 l0.length l0) (hc0 : l0.length ≤ c0) (h : spec_DrawGoOnTrip.f k l0 = some (r1, r2)) :
  Calls Tryz.prog 12 #[.slice A0 l0.length c0] w fun e w' => ∃ v0_ v1_ : Value, e = .returned (.tuple #[v0_, v1_]) ∧ Kd.R k41 41 w' w.heap.size (fun _ => True) v0_ r1 ∧ Kd.R (Kd.int .i64) 3 w' w.heap.size (fun _ => True) v1_ r2 ∧ Below w.heap.size w w' := by
 have HR0 := Aside0.mk hr0; have HC0 := Aside0.mk hc0; clear hr0 hc0
 have HB := Aside0.mk (Below.refl w.heap.size w)
 have H : ((spec_DrawIsTeam.f k l0).bind fun bt352 => (some (bt352.1, bt352.2))) = some (r1, r2) := h
 clear h; replace H := Option.bind_eq_some_iff.mp H; obtain ⟨⟨t352, t353⟩, A20, H⟩ := H
 replace H : (some (t352, t353)) = some (r1, r2) := H
 have A2 := Aside0.mk A20; clear A20
 simp only [Option.some.injEq, Prod.mk.injEq] at H
 obtain ⟨rfl, rfl⟩ := H
 go_enter Tryz.func12, Tryz.ntmps12
 go_wp2_with (first | ((with_reducible refine gate_callee (f := 47) rfl ?_); refine goesL_ (some 5) rfl rfl Tryz.func47 (by kernel_rfl) rfl #[.slice A0 l0.length c0] rfl gl_ ?_; (with_reducible refine (spec_DrawIsTeam.calls k _ _ l0 t352 t353 _ ?side1 ?side2 A2.out).mono ?_); (case side1 => exact z11_); (case side2 => exact HC0.out); rintro e w3 ⟨v354, v356, rfl, ho0, ho1, hb⟩; refine ⟨_, rfl, ?_⟩; have n0_ := Aside0.mk (Kd.R_lower ho0 (below_size bx_)); have n1_ := Aside0.mk (Kd.R_lower ho1 (below_size bx_)); have n2_ := Aside0.mk (below_step bx_ hb); clear HB; have HO355 := n0_; have HO357 := n1_; have HB := n2_; clear n0_ n1_ n2_; (try clear hb); (try clear hk); (try clear hi); (try clear ho0); (try clear ho1)))
 go_ret2
 exact ⟨_, _, z6_, by (with_reducible repeat (first | apply Kd.R_alloc | apply Kd.R_drewN | apply Kd.R_drew)); exact HO355.out, by (with_reducible repeat (first | apply Kd.R_alloc | apply Kd.R_drewN | apply Kd.R_drew)); exact HO357.out, z5_⟩

/-! ### impl_Person: function 48 (by hand) -/
def impl_Person.f (l0 : List S41) : Option (List S41) := if l0.length ≤ 1048576 then some l0 else none
set_option maxHeartbeats 4000000 in
set_option maxRecDepth 100000 in
theorem impl_Person.calls (A0 : Option Addr) (c0 : Nat) (l0 : List S41) (r : List S41) (w : World) (hr0 : Kd.C k41 w A0 l0.length l0) (hc0 : l0.length ≤ c0) (h : impl_Person.f l0 = some r) :
  Calls Tryz.prog 48 #[.slice A0 l0.length c0] w fun e w' => ∃ v0_ : Value, e = .returned v0_ ∧ Kd.R k41 41 w' w.heap.size (fun _ => True) v0_ r ∧ Below w.heap.size w w' := by
 unfold impl_Person.f at h
 split at h
 case isFalse => cases h
 rename_i hl
 obtain rfl := Option.some.inj h
 clear h; have hu41 := Tryz.underlying41
 have q25 : ∀ (w : World) (a : Option Addr) (n c n' c' : Nat), (binOp .eql 24 (.slice a n c) (.slice none n' c')).run Tryz.prog w = .ok (.bool a.isNone) w := fun w a n c n' c' => Lib.run_eql_slice_nil w _ _ a n c n' c' Tryz.underlying24
 have HR0 := Aside0.mk hr0; have HLn := Aside0.mk hl
 have HB := Aside0.mk (Below.refl w.heap.size w)
 cases A0 with
 | none =>
  have e0 : l0 = [] := by
   have h := hr0.2.2
   match l0 with
   | [] => rfl
   | a :: r =>
    obtain ⟨_, q, _⟩ := h (by simp)
    cases q
  subst e0; clear hr0 hl
  go_enter Tryz.func48, Tryz.ntmps48
  go_wp2
  go_ret
  exact ⟨_, rfl, Kd.R_nil _ _ _ _ _, HB.out⟩
 | some ad =>
  clear hr0 hl
  go_enter Tryz.func48, Tryz.ntmps48
  go_wp2_with (first | ((with_reducible refine gate_dst (N := 5) rfl ?_); refine Kd.R_lit k41 _ 41 ?hg (N := 5) ?hd (xs := ([] : List (S41))) (inner := []) (ok := fun _ => True) (okp := fun _ => True) ?hr ?hp (fun _ hk => hk) trivial (Below.refl _ _) (Nat.le_refl _) (by simp) ?_; (case hd => rfl); (case hg => rfl); (case hr => first | (go_simp; done) | (go_simp; rfl)); (case hp => exact (Reps.none _ _)); intro v173 w14 ho15 hb hg_ hnew_; clear hg_ hnew_; have n0_ := Aside0.mk (Kd.R_lower ho15 (below_size bx_)); have n1_ := Aside0.mk (below_step bx_ hb); clear HB; have HO174 := n0_; have HB := n1_; clear n0_ n1_; clear hb ho15) | ((with_reducible refine gate_builtin (b := .append) (xs := #[.tmp 5, .tmp 6]) rfl ?_); at_builtin; refine Kd.R_append_rows k41 (w0 := w) w.heap.size rfl (.tmp 5) (.tmp 6) 24 41 (.agg #[(.int .i64 0), (.string ⟨#[]⟩), (.int .i64 0), (.int .i64 0)]) 40 rfl Tryz.underlying24 info41 rfl (by decide) (by omega) v173 [] l0 _ _ _ (fun _ => True) (fun _ => False) rfl rfl ?aO ?aR (fun _ _ h => h) (fun _ h => h.elim) ?aF ?aB ?aS ?aL ?_; (case aR => exact z14_); (case aB => exact bx_); (case aF => exact (fun _ _ => trivial)); (case aO => exact (kr_ HO174)); (case aS => exact (below_size bx_)); (case aL => have := HLn.out; simp only [List.length_nil]; omega); intro v176 w16 ho hb hg hat; have n0_ := Aside0.mk (hb); have n1_ := Aside0.mk (ho); clear HB; clear HO174; have HB := n0_; have HO177 := n1_; clear n0_ n1_; clear ho hb hg hat))
  go_ret
  exact ⟨_, rfl, HO177.out, HB.out⟩


end Go.Proofs.YtafdklajmklmkaaGreatDoor.XFnTeams
