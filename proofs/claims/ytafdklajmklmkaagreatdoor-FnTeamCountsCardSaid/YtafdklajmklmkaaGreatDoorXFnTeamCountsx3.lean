/- Contracts of the functions that the law FnTeamCounts comes to: each is told as a plain function of its arguments, and the machine's call does what that function says; no condition. Written by programs (print.py, xprint.py); Lean checks it. -/
import Derived.Test.YtafdklajmklmkaaGreatDoorXFnTeamCountsx0
import Derived.Test.YtafdklajmklmkaaGreatDoorXFnTeamCountsx1
import Derived.Test.YtafdklajmklmkaaGreatDoorXFnTeamCountsx2
namespace Go.Proofs.YtafdklajmklmkaaGreatDoor.XFnTeamCounts
open Go.RowKit Go.Proofs.YtafdklajmklmkaaGreatDoorW.PrintWords Go.Proofs.YtafdklajmklmkaaGreatDoorW.PrintLast Go.Proofs.YtafdklajmklmkaaGreatDoorW.PrintMore
attribute [local go_sem] max2_int min2_int max_two min_two max_three min_three max_four min_four   -- for this text's walks alone
set_option linter.unusedVariables false
set_option linter.unusedSimpArgs false

/-! ### impl_strictly: function 68 -/
def impl_strictly.l0 : Nat → List Int → Int → Int → List Int → Int → Int → Option (Bool)
 | 0, _, _, _, _, _, _ => none
 | k + 1, x0, x1, x2, x9, x10, x11 => if x11 < x10 then (if 0 ≤ x11 then (if x11 < (x9.length : Int) then ((impl_within.f (rd x9 x11) x1 x2).bind fun t120 => (if t120 = true then (if x11 > 0 then (if 0 ≤ (wrap64 (x11 - 1)) then (if (wrap64 (x11 - 1)) < (x0.length : Int) then (if (rd x0 (wrap64 (x11 - 1))) ≥ (rd x9 x11) then (some false) else (impl_strictly.l0 k x0 x1 x2 x9 x10 (wrap64 (x11 + 1)))) else (none)) else (none)) else (impl_strictly.l0 k x0 x1 x2 x9 x10 (wrap64 (x11 + 1)))) else (some false))) else (none)) else (none)) else (some true)
def impl_strictly.f (k : Nat) (l0 : List Int) (a1 : Int) (a2 : Int) : Option (Bool) := impl_strictly.l0 k l0 a1 a2 l0 (l0.length : Int) 0
set_option maxHeartbeats 8000000 in
set_option maxRecDepth 100000 in
theorem impl_strictly.calls (k : Nat) (A0 : Option Addr) (c0 : Nat) (l0 : List Int) (a1 : Int) (a2 : Int) (r : Bool) (w : World) (hr0 : Kd.C (Kd.int .i64) w A0 l0.length l0) (hc0 : l0.length ≤ c0) (h : impl_strictly.f k l0 a1 a2 = some r) :
  Calls Tryz.prog 68 #[.slice A0 l0.length c0, .int .i64 a1, .int .i64 a2] w fun e w' => e = .returned (.bool r) ∧ Drawn0 w w' := by
 have HR0 := Aside0.mk hr0; have HC0 := Aside0.mk hc0; clear hr0 hc0
 have H : (impl_strictly.l0 k l0 a1 a2 l0 (l0.length : Int) 0) = some r := h
 clear h
 have H' := Aside0.mk H
 clear H
 go_enter Tryz.func68, Tryz.ntmps68
 go_wp2
 go_loopg [11] k (fun kq v11 w' => ∃ (x11_1 : Int), v11 = .int .i64 x11_1 ∧ Aside0 (impl_strictly.l0 kq l0 a1 a2 l0 (l0.length : Int) x11_1 = some r) ∧ Aside0 (kq ≤ k) ∧ Drawn0 w w')
 case atStart => exact ⟨(0), z2_, H', ⟨Nat.le_refl _⟩, z6_⟩
 case round =>
  clear H'
  obtain ⟨x11_1, rfl, HA, HK1, ⟨m1, rfl⟩⟩ := hrel
  cases gk with
  | zero => exact absurd HA.out (by simp [impl_strictly.l0])
  | succ k1 =>
   have H := HA.out; clear HA
   simp only [impl_strictly.l0] at H
   by_cases c4 : x11_1 < (l0.length : Int)
   ·rw [if_pos c4] at H
    have c4b0 : decide (x11_1 < (l0.length : Int)) = true := decide_eq_true c4
    clear c4
    by_cases c5 : 0 ≤ x11_1
    ·rw [if_pos c5] at H
     have c5b0 : decide (0 ≤ x11_1) = true := decide_eq_true c5
     clear c5
     by_cases c6 : x11_1 < (l0.length : Int)
     ·rw [if_pos c6] at H
      have c6b0 : decide (x11_1 < (l0.length : Int)) = true := decide_eq_true c6
      clear c6; replace H := Option.bind_eq_some_iff.mp H; obtain ⟨t120, A70, H⟩ := H
      replace H : (if t120 = true then (if x11_1 > 0 then (if 0 ≤ (wrap64 (x11_1 - 1)) then (if (wrap64 (x11_1 - 1)) < (l0.length : Int) then (if (rd l0 (wrap64 (x11_1 - 1))) ≥ (rd l0 x11_1) then (some false) else (impl_strictly.l0 k1 l0 a1 a2 l0 (l0.length : Int) (wrap64 (x11_1 + 1)))) else (none)) else (none)) else (impl_strictly.l0 k1 l0 a1 a2 l0 (l0.length : Int) (wrap64 (x11_1 + 1)))) else (some false)) = some r := H
      have A7 := Aside0.mk A70; clear A70
      by_cases c8 : t120 = true
      ·subst c8
       have H1 : (if x11_1 > 0 then (if 0 ≤ (wrap64 (x11_1 - 1)) then (if (wrap64 (x11_1 - 1)) < (l0.length : Int) then (if (rd l0 (wrap64 (x11_1 - 1))) ≥ (rd l0 x11_1) then (some false) else (impl_strictly.l0 k1 l0 a1 a2 l0 (l0.length : Int) (wrap64 (x11_1 + 1)))) else (none)) else (none)) else (impl_strictly.l0 k1 l0 a1 a2 l0 (l0.length : Int) (wrap64 (x11_1 + 1)))) = some r := by rw [if_pos rfl] at H; exact H
       clear H; have H := H1; clear H1
       by_cases c9 : x11_1 > 0
       ·rw [if_pos c9] at H
        have c9b0 : decide (0 < x11_1) = true := decide_eq_true c9
        clear c9
        obtain ⟨ji10, hji10⟩ : ∃ j_ : Int, (wrap64 (x11_1 - 1)) = j_ := ⟨_, rfl⟩
        replace H : (if 0 ≤ (ji10) then (if (ji10) < (l0.length : Int) then (if (rd l0 (ji10)) ≥ (rd l0 x11_1) then (some false) else (impl_strictly.l0 k1 l0 a1 a2 l0 (l0.length : Int) (wrap64 (x11_1 + 1)))) else (none)) else (none)) = some r := by first | (rw [hji10] at H; exact H) | (simp only [hji10] at H ⊢; exact H)
        (try rw [hji10] at A7)
        have hji10w : (IntKind.i64.wrap (x11_1 - 1)) = ji10 := (i64_w _).trans hji10
        by_cases c11 : 0 ≤ (ji10)
        ·rw [if_pos c11] at H
         have c11b0 : decide (0 ≤ (ji10)) = true := decide_eq_true c11
         clear c11
         by_cases c12 : (ji10) < (l0.length : Int)
         ·rw [if_pos c12] at H
          have c12b0 : decide ((ji10) < (l0.length : Int)) = true := decide_eq_true c12
          clear c12
          by_cases c13 : (rd l0 (ji10)) ≥ (rd l0 x11_1)
          ·rw [if_pos c13] at H
           have c13b0 : decide ((rd l0 x11_1) ≤ (rd l0 (ji10))) = true := decide_eq_true c13
           clear c13
           obtain rfl := Option.some.inj H
           have p119 : 0 ≤ (x11_1 : Int) := od_
           have q119 : x11_1 < (l0.length : Int) := od_
           obtain ⟨ad119, e119, hx119_0⟩ := Kd.at_int HR0.out x11_1 p119 q119
           cases e119
           replace p119 := eq_true p119
           replace q119 := eq_true q119
           go_wp2_with (first | ((with_reducible refine gate_callee (f := 57) rfl ?_); refine goesL_ (some 19) rfl rfl Tryz.func57 (by kernel_rfl) rfl #[.int .i64 (rd l0 x11_1), .int .i64 a1, .int .i64 a2] rfl gl_ ?_; (with_reducible refine (impl_within.calls (rd l0 x11_1) a1 a2 true _ A7.out).mono ?_); rintro e w' ⟨rfl, ⟨nd, rfl⟩⟩; refine ⟨_, rfl, ?_⟩; have p121 : 0 ≤ ((ji10) : Int) := od_; have q121 : (ji10) < (l0.length : Int) := od_; obtain ⟨ad121, e121, hx121_0⟩ := Kd.at_int HR0.out (ji10) p121 q121; obtain rfl : ad119 = ad121 := (by injection e121); replace p121 := eq_true p121; replace q121 := eq_true q121))
           go_ret
           exact ⟨by first | rfl | (simp; done) | (simp only [← hji10] <;> (first | rfl | simp)) | (simp [*]; done), z6_⟩
          ·rw [if_neg c13] at H
           have c13b0 : decide ((rd l0 x11_1) ≤ (rd l0 (ji10))) = false := decide_eq_false c13
           clear c13
           have H' := Aside0.mk H
           clear H
           have p119 : 0 ≤ (x11_1 : Int) := od_
           have q119 : x11_1 < (l0.length : Int) := od_
           obtain ⟨ad119, e119, hx119_0⟩ := Kd.at_int HR0.out x11_1 p119 q119
           cases e119
           replace p119 := eq_true p119
           replace q119 := eq_true q119
           go_wp2_with (first | ((with_reducible refine gate_callee (f := 57) rfl ?_); refine goesL_ (some 19) rfl rfl Tryz.func57 (by kernel_rfl) rfl #[.int .i64 (rd l0 x11_1), .int .i64 a1, .int .i64 a2] rfl gl_ ?_; (with_reducible refine (impl_within.calls (rd l0 x11_1) a1 a2 true _ A7.out).mono ?_); rintro e w' ⟨rfl, ⟨nd, rfl⟩⟩; refine ⟨_, rfl, ?_⟩; have p121 : 0 ≤ ((ji10) : Int) := od_; have q121 : (ji10) < (l0.length : Int) := od_; obtain ⟨ad121, e121, hx121_0⟩ := Kd.at_int HR0.out (ji10) p121 q121; obtain rfl : ad119 = ad121 := (by injection e121); replace p121 := eq_true p121; replace q121 := eq_true q121))
           go_roundg k1
           case measure => have := HK1.out; omega
           case rel => exact ⟨(wrap64 (x11_1 + 1)), z2_, H', ⟨by have := HK1.out; omega⟩, z6_⟩
         ·rw [if_neg c12] at H
          exact absurd H (by simp)
        ·rw [if_neg c11] at H
         exact absurd H (by simp)
       ·rw [if_neg c9] at H
        have c9b0 : decide (0 < x11_1) = false := decide_eq_false c9
        clear c9
        have H' := Aside0.mk H
        clear H
        have p119 : 0 ≤ (x11_1 : Int) := od_
        have q119 : x11_1 < (l0.length : Int) := od_
        obtain ⟨ad119, e119, hx119_0⟩ := Kd.at_int HR0.out x11_1 p119 q119
        cases e119
        replace p119 := eq_true p119
        replace q119 := eq_true q119
        go_wp2_with (first | ((with_reducible refine gate_callee (f := 57) rfl ?_); refine goesL_ (some 19) rfl rfl Tryz.func57 (by kernel_rfl) rfl #[.int .i64 (rd l0 x11_1), .int .i64 a1, .int .i64 a2] rfl gl_ ?_; (with_reducible refine (impl_within.calls (rd l0 x11_1) a1 a2 true _ A7.out).mono ?_); rintro e w' ⟨rfl, ⟨nd, rfl⟩⟩; refine ⟨_, rfl, ?_⟩))
        go_roundg k1
        case measure => have := HK1.out; omega
        case rel => exact ⟨(wrap64 (x11_1 + 1)), z2_, H', ⟨by have := HK1.out; omega⟩, z6_⟩
      ·replace c8 := Bool.eq_false_iff.mpr c8
       subst c8
       have H1 : (some false) = some r := by rw [if_neg (show ¬ (false = true) by decide)] at H; exact H
       clear H; have H := H1; clear H1
       obtain rfl := Option.some.inj H
       have p119 : 0 ≤ (x11_1 : Int) := od_
       have q119 : x11_1 < (l0.length : Int) := od_
       obtain ⟨ad119, e119, hx119_0⟩ := Kd.at_int HR0.out x11_1 p119 q119
       cases e119
       replace p119 := eq_true p119
       replace q119 := eq_true q119
       go_wp2_with (first | ((with_reducible refine gate_callee (f := 57) rfl ?_); refine goesL_ (some 19) rfl rfl Tryz.func57 (by kernel_rfl) rfl #[.int .i64 (rd l0 x11_1), .int .i64 a1, .int .i64 a2] rfl gl_ ?_; (with_reducible refine (impl_within.calls (rd l0 x11_1) a1 a2 false _ A7.out).mono ?_); rintro e w' ⟨rfl, ⟨nd, rfl⟩⟩; refine ⟨_, rfl, ?_⟩))
       go_ret
       exact ⟨z2_, z6_⟩
     ·rw [if_neg c6] at H
      exact absurd H (by simp)
    ·rw [if_neg c5] at H
     exact absurd H (by simp)
   ·rw [if_neg c4] at H
    have c4b0 : decide (x11_1 < (l0.length : Int)) = false := decide_eq_false c4
    clear c4
    obtain rfl := Option.some.inj H
    go_wp2
    go_ret
    exact ⟨z2_, z6_⟩

/-! ### impl_membersOf: function 44 (by hand) -/
def ixFrom (id : Int) : List S41 → Nat → Int
 | [], _ => -1
 | y :: r, i => if y.f0 = id then (i : Int) else ixFrom id r (i + 1)
theorem rd_T41_drop (l : List S41) (j : Nat) (h : j < l.length) : l.drop j = rd_T41 l (j : Int) :: l.drop (j + 1) := by
 rw [List.drop_eq_getElem_cons h]
 congr 1
 simp [rd_T41, h]
set_option maxHeartbeats 1000000 in
set_option maxRecDepth 100000 in
theorem membersOf_pred (g : Nat) (id : Int) (x : S41) (w : World) (hc : w.cell? ⟨g, 0, none⟩ = some (.int .i64 id)) (hg : g < w.heap.size) :
  Calls Tryz.prog 70 #[.agg #[.int .i64 x.f0, .string x.f1, .int .i64 x.f2, .int .i64 x.f3], .pointer (some ⟨g, 0, none⟩)] w fun e w' => e = .returned (.bool (x.f0 == id)) ∧ Below w.heap.size w w' := by
 have hne : g ≠ w.heap.size := by omega
 go_enter Tryz.func70, Tryz.ntmps70
 go_wp2
 go_ret
 exact ⟨rfl, (Below.refl _ w).alloc (Nat.le_refl _) _⟩
set_option maxHeartbeats 4000000 in
set_option maxRecDepth 100000 in
theorem indexFunc_calls (A0 : Option Addr) (c0 : Nat) (l0 : List S41) (g : Nat) (id : Int) (w : World) (hr0 : Kd.C k41 w A0 l0.length l0) (hlen : l0.length ≤ 9223372036854775807) (hc : w.cell? ⟨g, 0, none⟩ = some (.int .i64 id)) (hg : g < w.heap.size) :
  Calls Tryz.prog 69 #[.slice A0 l0.length c0, .func (.func 70) #[] #[.pointer (some ⟨g, 0, none⟩)]] w fun e w' => e = .returned (.int .i64 (ixFrom id l0 0)) ∧ Below w.heap.size w w' := by
 have hu41 := Tryz.underlying41; have HR0 := Aside0.mk hr0; have HCE := Aside0.mk hc; have HG := Aside0.mk hg; have HLen := Aside0.mk hlen
 obtain ⟨v, hv⟩ : ∃ v, ixFrom id l0 0 = v := ⟨_, rfl⟩
 rw [hv]
 have HV := Aside0.mk hv; clear hr0 hc hg hlen hv
 have HB := Aside0.mk (Below.refl w.heap.size w)
 go_enter Tryz.func69, Tryz.ntmps69
 go_wp2
 go_loopg [8] l0.length (fun kq v8 w' => ∃ j : Nat, v8 = .int .i64 j ∧ Aside0 (kq + j = l0.length) ∧ Aside0 (ixFrom id (l0.drop j) j = v) ∧ Aside0 (Below w.heap.size w w'))
 case atStart => exact ⟨0, rfl, ⟨rfl⟩, HV, HB⟩
 case round =>
  obtain ⟨j, rfl, HJ, HX, HB⟩ := hrel
  cases gk with
  | succ k1 =>
   have c1 : j < l0.length := by have := HJ.out; omega
   obtain ⟨ad, e1, hx0, hx1, hx2, hx3⟩ := at_T41 HR0.out (j : Int) (by omega) (by omega)
   cases e1
   simp only [Int.toNat_natCast] at hx0 hx1 hx2 hx3
   replace hx0 := (HB.out.cell (World.block_lt_of_cell? w _ hx0)).trans hx0
   replace hx1 := (HB.out.cell (World.block_lt_of_cell? w _ hx1)).trans hx1
   replace hx2 := (HB.out.cell (World.block_lt_of_cell? w _ hx2)).trans hx2
   replace hx3 := (HB.out.cell (World.block_lt_of_cell? w _ hx3)).trans hx3
   have c1n : decide (j < l0.length) = true := decide_eq_true c1
   have c1b : decide ((j : Int) < (l0.length : Int)) = true := decide_eq_true (by omega)
   have hd := rd_T41_drop l0 j c1; have HD := Aside0.mk hd; have CJ := Aside0.mk c1; have HY := HX.out
   rw [hd] at HY
   simp only [ixFrom] at HY
   by_cases c2 : (rd_T41 l0 (j : Int)).f0 = id
   ·rw [if_pos c2] at HY
    have c2b : ((rd_T41 l0 (j : Int)).f0 == id) = true := beq_iff_eq.mpr c2
    have HY' := Aside0.mk HY
    clear hd HY c2
    go_wp2_with (first | (go_at_call 70; refine (membersOf_pred g id (rd_T41 l0 (j : Int)) _ ((HB.out.cell HG.out).trans HCE.out) (Nat.lt_of_lt_of_le HG.out HB.out.size)).mono ?_; rintro e w2 ⟨rfl, hb⟩; have HB2 := Aside0.mk (below_step HB.out hb); clear hb))
    go_ret
    exact ⟨by rw [← HY'.out]; rfl, by repeat (first | (with_reducible first | exact HB2.out | apply below_alloc | apply pw_below_drewN | apply below_drew1) | exact HB2.out)⟩
   ·rw [if_neg c2] at HY
    have c2b : ((rd_T41 l0 (j : Int)).f0 == id) = false := beq_eq_false_iff_ne.mpr c2
    have HY' := Aside0.mk HY
    clear hd HY c2
    go_wp2_with (first | (go_at_call 70; refine (membersOf_pred g id (rd_T41 l0 (j : Int)) _ ((HB.out.cell HG.out).trans HCE.out) (Nat.lt_of_lt_of_le HG.out HB.out.size)).mono ?_; rintro e w2 ⟨rfl, hb⟩; have HB2 := Aside0.mk (below_step HB.out hb); clear hb))
    go_roundg k1
    case measure => omega
    case rel =>
     have q := CJ.out; have ql := HLen.out
     exact ⟨j + 1, congrArg (Value.int .i64) (by first | rfl | (unfold wrap64; omega) | omega), ⟨by have := HJ.out; omega⟩, HY', ⟨by repeat (first | (with_reducible first | exact HB2.out | apply below_alloc | apply pw_below_drewN | apply below_drew1) | exact HB2.out)⟩⟩
  | zero =>
   have c1 : ¬ j < l0.length := by have := HJ.out; omega
   have c1n : decide (j < l0.length) = false := decide_eq_false c1
   have c1b : decide ((j : Int) < (l0.length : Int)) = false := decide_eq_false (by omega)
   have HY := HX.out
   rw [List.drop_of_length_le (by omega)] at HY
   have HY' := Aside0.mk (show (-1 : Int) = v from HY)
   clear HY c1
   go_wp2
   go_ret
   exact ⟨by rw [← HY'.out]; rfl, HB.out⟩

/-- The people with the ids, behind those that are found already. -/
def memLoop (l : List S41) : List Int → List S41 → Option (List S41 × Bool)
 | [], acc => some (acc, true)
 | id :: ids, acc => if ixFrom id l 0 < 0 then some ([], false) else if ixFrom id l 0 < (l.length : Int) then (if acc.length < 2000000 then memLoop l ids (acc ++ [rd_T41 l (ixFrom id l 0)]) else none) else none
def impl_membersOf.f (k : Nat) (l0 : List S41) (l1 : List Int) : Option (List S41 × Bool) := (impl_strictly.f k l1 1 99).bind fun b => if b = true then memLoop l0 l1 [] else some ([], false)
theorem ids_drop (l : List Int) (j : Nat) (h : j < l.length) : l.drop j = rd l (j : Int) :: l.drop (j + 1) := by
 rw [List.drop_eq_getElem_cons h]
 congr 1
 simp [rd, h]
set_option maxHeartbeats 4000000 in
set_option maxRecDepth 100000 in
theorem impl_membersOf.calls (k : Nat) (A0 : Option Addr) (c0 : Nat) (l0 : List S41) (A1 : Option Addr) (c1 : Nat) (l1 : List Int) (r1 : List S41) (r2 : Bool) (w : World) (hr0 : Kd.C k41 w A0 l0.length l0) (hc0 : l0.length ≤ c0) (hr1 : Kd.C (Kd.int .i64) w A1 l1.length l1) (hc1 : l1.length ≤ c1) (h : impl_membersOf.f k l0 l1 = some (r1, r2)) :
  Calls Tryz.prog 44 #[.slice A0 l0.length c0, .slice A1 l1.length c1] w fun e w' => ∃ v0_ : Value, e = .returned (.tuple #[v0_, .bool r2]) ∧ Kd.R k41 41 w' w.heap.size (fun _ => True) v0_ r1 ∧ Below w.heap.size w w' := by
 have hu41 := Tryz.underlying41
 have HLen := Aside0.mk (show l0.length ≤ 9223372036854775807 from hr0.2.1)
 have HLen1 := Aside0.mk (show l1.length ≤ 9223372036854775807 from hr1.2.1)
 have HR0 := Aside0.mk hr0; have HR1 := Aside0.mk hr1; have HC0 := Aside0.mk hc0; have HC1 := Aside0.mk hc1; clear hr0 hr1 hc0 hc1
 have HB := Aside0.mk (Below.refl w.heap.size w)
 unfold impl_membersOf.f at h
 obtain ⟨b, hst, h⟩ := Option.bind_eq_some_iff.mp h
 have HST := Aside0.mk hst; clear hst
 cases b with
 | false =>
  simp only [Bool.false_eq_true, if_false, Option.some.injEq, Prod.mk.injEq] at h
  obtain ⟨rfl, rfl⟩ := h
  go_enter Tryz.func44, Tryz.ntmps44
  go_wp2_with (go_at_call 68; refine (impl_strictly.calls k A1 c1 l1 1 99 false _ HR1.out HC1.out HST.out).mono ?_; rintro e w1 ⟨rfl, hb⟩; obtain ⟨nd, rfl⟩ := hb; have HB1 := Aside0.mk (pw_below_drewN HB.out nd))
  go_ret2
  exact ⟨_, rfl, Kd.R_nil _ _ _ _ _, HB1.out⟩
 | true =>
  simp only [if_true] at h
  have H' := Aside0.mk h
  clear h
  go_enter Tryz.func44, Tryz.ntmps44
  go_wp2_with (go_at_call 68; refine (impl_strictly.calls k A1 c1 l1 1 99 true _ HR1.out HC1.out HST.out).mono ?_; rintro e w1 ⟨rfl, hb⟩; obtain ⟨nd, rfl⟩ := hb; have HB1 := Aside0.mk (pw_below_drewN HB.out nd))
  go_loopg [6, 15] l1.length (fun kq v6 v15 w' => ∃ (j : Nat) (acc : List S41), v15 = .int .i64 j ∧ Aside0 (kq + j = l1.length) ∧ Aside0 (memLoop l0 (l1.drop j) acc = some (r1, r2)) ∧ Aside0 (Kd.R k41 41 w' w.heap.size (fun _ => True) v6 acc) ∧ Aside0 (Below w.heap.size w w'))
  case atStart => exact ⟨0, [], rfl, ⟨rfl⟩, H', ⟨Kd.R_nil _ _ _ _ _⟩, ⟨by repeat (first | (with_reducible first | exact HB1.out | apply below_alloc | apply pw_below_drewN | apply below_drew1) | exact HB1.out)⟩⟩
  case round =>
   clear H' HB
   obtain ⟨j, acc, rfl, HJ, HM, HO, HB⟩ := hrel
   cases gk with
   | succ k1 =>
    have q1 : j < l1.length := by have := HJ.out; omega
    have q1b : decide ((j : Int) < (l1.length : Int)) = true := decide_eq_true (by omega)
    obtain ⟨ad, e1, hx⟩ := Kd.at_int HR1.out (j : Int) (by omega) (by omega)
    cases e1
    rw [Int.toNat_natCast] at hx
    replace hx := (HB.out.cell (World.block_lt_of_cell? w _ hx)).trans hx
    have hd := ids_drop l1 j q1; have H := HM.out
    rw [hd] at H
    simp only [memLoop] at H
    obtain ⟨id, hid⟩ : ∃ id, rd l1 (j : Int) = id := ⟨_, rfl⟩
    rw [hid] at H hx
    obtain ⟨ix, hix⟩ : ∃ ix, ixFrom id l0 0 = ix := ⟨_, rfl⟩
    rw [hix] at H
    have HIX := Aside0.mk hix; have Q1 := Aside0.mk q1; clear hd hid hix HM
    by_cases q2 : ix < 0
    ·rw [if_pos q2] at H
     simp only [Option.some.injEq, Prod.mk.injEq] at H
     obtain ⟨rfl, rfl⟩ := H
     have q2b : decide (ix < 0) = true := decide_eq_true q2
     clear q2
     go_wp2_with (first
      | ((with_reducible refine gate_dst (N := 8) rfl ?_); refine box_event ?hg (N := 8) ?hd (cs := #[.int .i64 0]) (t := 3) ?hr ?_; (case hd => rfl); (case hg => rfl); (case hr => first | (go_simp; done) | (go_simp; rfl)); intro gb hg w8 hbox hb; have n0_ := Aside0.mk (Kd.R_below z42_ hb); have n1_ := Aside0.mk (below_step bx_ hb); have n2_ := Aside0.mk (hbox); have n3_ := Aside0.mk ((by rw [hg]; exact (below_size bx_)) : w.heap.size ≤ gb); clear HO; clear HB; have HO := n0_; have HB := n1_; have BK := n2_; have GE := n3_; clear n0_ n1_ n2_ n3_; clear hb hbox hg; have hcz_0 : w8.cell? ⟨gb, 0, none⟩ = some (.int .i64 0) := (blk_cell BK.out 0).trans rfl; have hfz_0 := blk_frozen BK.out 0)
      | (go_at_call 69; have n0_ := Aside0.mk (blk_put (cs := #[.int .i64 0]) BK.out 0 (.int .i64 id) rfl); have n1_ := Aside0.mk (show Below w.heap.size w (w8.setCell ⟨gb, 0, none⟩ (.int .i64 id)) from below_set HB.out GE.out); have n2_ := Aside0.mk (Kd.R_mono (Kd.R_far (p := ⟨gb, 0, none⟩) (Kd.R_types HO.out BK.out (by decide)) (fun _ hk => hk.2) (.int .i64 id)) (fun _ hk => trivial)); refine (indexFunc_calls _ c0 l0 gb id _ (Kd.C_below HR0.out n1_.out) HLen.out (blk_cell n0_.out 0) (blk_lt n0_.out)).mono ?_; rintro e w9 ⟨rfl, hb⟩; rw [HIX.out]; have n3_ := Aside0.mk (Kd.R_below n2_.out hb); have n4_ := Aside0.mk (below_step n1_.out hb); clear HO HB BK GE n0_ n1_ n2_ hcz_0 hfz_0 hb; have HO := n3_; have HB := n4_; clear n3_ n4_))
     go_ret2
     exact ⟨_, rfl, Kd.R_nil _ _ _ _ _, HB.out⟩
    ·rw [if_neg q2] at H
     by_cases q3 : ix < (l0.length : Int)
     ·rw [if_pos q3] at H
      by_cases q4 : acc.length < 2000000
      ·rw [if_pos q4] at H
       have q2b : decide (ix < 0) = false := decide_eq_false q2
       have Q2 := Aside0.mk q2; have Q3 := Aside0.mk q3; have Q4 := Aside0.mk q4
       have H' := Aside0.mk H
       obtain ⟨ad, e1, hx0, hx1, hx2, hx3⟩ := at_T41 HR0.out ix (by omega) q3
       cases e1
       have HX0 := Aside0.mk hx0; have HX1 := Aside0.mk hx1; have HX2 := Aside0.mk hx2; have HX3 := Aside0.mk hx3; clear q2 q4 H hx0 hx1 hx2 hx3
       go_wp2_with (first
        | ((with_reducible refine gate_dst (N := 8) rfl ?_); refine box_event ?hg (N := 8) ?hd (cs := #[.int .i64 0]) (t := 3) ?hr ?_; (case hd => rfl); (case hg => rfl); (case hr => first | (go_simp; done) | (go_simp; rfl)); intro gb hg w8 hbox hb; have n0_ := Aside0.mk (Kd.R_below z42_ hb); have n1_ := Aside0.mk (below_step bx_ hb); have n2_ := Aside0.mk (hbox); have n3_ := Aside0.mk ((by rw [hg]; exact (below_size bx_)) : w.heap.size ≤ gb); clear HO; clear HB; have HO := n0_; have HB := n1_; have BK := n2_; have GE := n3_; clear n0_ n1_ n2_ n3_; clear hb hbox hg; have hcz_0 : w8.cell? ⟨gb, 0, none⟩ = some (.int .i64 0) := (blk_cell BK.out 0).trans rfl; have hfz_0 := blk_frozen BK.out 0)
        | (go_at_call 69; have n0_ := Aside0.mk (blk_put (cs := #[.int .i64 0]) BK.out 0 (.int .i64 id) rfl); have n1_ := Aside0.mk (show Below w.heap.size w (w8.setCell ⟨gb, 0, none⟩ (.int .i64 id)) from below_set HB.out GE.out); have n2_ := Aside0.mk (Kd.R_mono (Kd.R_far (p := ⟨gb, 0, none⟩) (Kd.R_types HO.out BK.out (by decide)) (fun _ hk => hk.2) (.int .i64 id)) (fun _ hk => trivial)); refine (indexFunc_calls _ c0 l0 gb id _ (Kd.C_below HR0.out n1_.out) HLen.out (blk_cell n0_.out 0) (blk_lt n0_.out)).mono ?_; rintro e w9 ⟨rfl, hb⟩; rw [HIX.out]; have n3_ := Aside0.mk (Kd.R_below n2_.out hb); have n4_ := Aside0.mk (below_step n1_.out hb); clear HO HB BK GE n0_ n1_ n2_ hcz_0 hfz_0 hb; have HO := n3_; have HB := n4_; clear n3_ n4_; have hx0 := (HB.out.cell (World.block_lt_of_cell? w _ HX0.out)).trans HX0.out; have hx1 := (HB.out.cell (World.block_lt_of_cell? w _ HX1.out)).trans HX1.out; have hx2 := (HB.out.cell (World.block_lt_of_cell? w _ HX2.out)).trans HX2.out; have hx3 := (HB.out.cell (World.block_lt_of_cell? w _ HX3.out)).trans HX3.out)
        | ((with_reducible refine gate_builtin (b := .append) (xs := #[.tmp 24, .tmp 29]) rfl ?_); at_builtin; refine Kd.R_append k41 (w0 := w) w.heap.size rfl (.tmp 24) (.tmp 29) 24 41 (.agg #[.int .i64 0, .string ⟨#[]⟩, .int .i64 0, .int .i64 0]) 40 rfl Tryz.underlying24 info41 rfl (by decide) (by omega) u6 acc (rd_T41 l0 ix) [.int .i64 (rd_T41 l0 ix).f0, .string (rd_T41 l0 ix).f1, .int .i64 (rd_T41 l0 ix).f2, .int .i64 (rd_T41 l0 ix).f3] (fun _ => True) (fun _ => False) rfl rfl ?aP (fun _ hk => hk.elim) ?aF ?aO ?aB ?aS ?aL ?_; (case aP => exact k41_mkM _ _ _ _); (case aB => exact bx_); (case aF => exact (fun _ _ => trivial)); (case aO => exact z42_); (case aS => exact (below_size bx_)); (case aL => have := Q4.out; omega); intro v119 w16 ho hb hg hat; have n0_ := Aside0.mk (hb); have n1_ := Aside0.mk (ho); clear HB; clear HO; have HB := n0_; have HO := n1_; clear n0_ n1_; clear ho hb hg hat))
       case isFalse hh => exact absurd Q2.out (by omega)
       go_roundg k1
       case measure => omega
       case rel => exact ⟨j + 1, _, congrArg (Value.int .i64) (by first | rfl | (unfold wrap64; have := Q1.out; have := HLen1.out; omega)), ⟨by have := HJ.out; omega⟩, H', HO, HB⟩
      ·rw [if_neg q4] at H; cases H
     ·rw [if_neg q3] at H; cases H
   | zero =>
    have q1 : ¬ j < l1.length := by have := HJ.out; omega
    have q1b : decide ((j : Int) < (l1.length : Int)) = false := decide_eq_false (by omega)
    have q1n : decide (j < l1.length) = false := decide_eq_false q1
    have H := HM.out
    rw [List.drop_of_length_le (by omega)] at H
    simp only [memLoop, Option.some.injEq, Prod.mk.injEq] at H
    obtain ⟨rfl, rfl⟩ := H; clear q1
    go_wp2
    go_ret2
    exact ⟨_, rfl, HO.out, HB.out⟩


/-! ### impl_areTeam: function 45 -/
mutual
def impl_areTeam.l0 : Nat → List (S41) → List (S41) → Int → Int → Option (Bool)
 | 0, _, _, _, _ => none
 | k + 1, x0, x11, x12, x13 => if x13 < x12 then (if 0 ≤ x13 then (if x13 < (x11.length : Int) then (impl_areTeam.l1 k x0 x11 x12 x13 x0 (x0.length : Int) 0 ((rd_T41 x11 x13).f0) ((rd_T41 x11 x13).f1) ((rd_T41 x11 x13).f2) ((rd_T41 x11 x13).f3)) else (none)) else (none)) else (some false)
def impl_areTeam.l1 : Nat → List (S41) → List (S41) → Int → Int → List (S41) → Int → Int → Int → ByteArray → Int → Int → Option (Bool)
 | 0, _, _, _, _, _, _, _, _, _, _, _ => none
 | k + 1, x0, x11, x12, x13, x17, x18, x19, x125000, x125001, x125002, x125003 => if x19 < x18 then (if 0 ≤ x19 then (if x19 < (x17.length : Int) then (if x125000 = ((rd_T41 x17 x19).f0) then (impl_areTeam.l1 k x0 x11 x12 x13 x17 x18 (wrap64 (x19 + 1)) x125000 x125001 x125002 x125003) else (if (Go.bits .and .i64 x125002 1) = 0 then (impl_areTeam.l1 k x0 x11 x12 x13 x17 x18 (wrap64 (x19 + 1)) x125000 x125001 x125002 x125003) else (if (Go.bits .and .i64 ((rd_T41 x17 x19).f2) 2) = 0 then (impl_areTeam.l1 k x0 x11 x12 x13 x17 x18 (wrap64 (x19 + 1)) x125000 x125001 x125002 x125003) else (some true)))) else (none)) else (none)) else (impl_areTeam.l0 k x0 x11 x12 (wrap64 (x13 + 1)))
end
def impl_areTeam.f (k : Nat) (l0 : List (S41)) : Option (Bool) := (impl_within.f (l0.length : Int) 2 5).bind fun t122 => (if t122 = true then (impl_areTeam.l0 k l0 l0 (l0.length : Int) 0) else (some false))
set_option maxHeartbeats 8000000 in
set_option maxRecDepth 100000 in
theorem impl_areTeam.calls (k : Nat) (A0 : Option Addr) (c0 : Nat) (l0 : List (S41)) (r : Bool) (w : World) (hr0 : Kd.C k41 w A0 l0.length l0) (hc0 : l0.length ≤ c0) (h : impl_areTeam.f k l0 = some r) :
  Calls Tryz.prog 45 #[.slice A0 l0.length c0] w fun e w' => e = .returned (.bool r) ∧ Below w.heap.size w w' := by
 have hu41 := Tryz.underlying41; have HR0 := Aside0.mk hr0; have HC0 := Aside0.mk hc0; clear hr0 hc0
 have HB := Aside0.mk (Below.refl w.heap.size w)
 have H : ((impl_within.f (l0.length : Int) 2 5).bind fun t122 => (if t122 = true then (impl_areTeam.l0 k l0 l0 (l0.length : Int) 0) else (some false))) = some r := h
 clear h; replace H := Option.bind_eq_some_iff.mp H; obtain ⟨t122, A20, H⟩ := H
 replace H : (if t122 = true then (impl_areTeam.l0 k l0 l0 (l0.length : Int) 0) else (some false)) = some r := H
 have A2 := Aside0.mk A20; clear A20
 by_cases c3 : t122 = true
 ·subst c3
  have H1 : (impl_areTeam.l0 k l0 l0 (l0.length : Int) 0) = some r := by rw [if_pos rfl] at H; exact H
  clear H; have H := H1; clear H1
  have H' := Aside0.mk H
  clear H
  go_enter Tryz.func45, Tryz.ntmps45
  go_wp2_with (first | ((with_reducible refine gate_callee (f := 57) rfl ?_); refine goesL_ (some 9) rfl rfl Tryz.func57 (by kernel_rfl) rfl #[.int .i64 (l0.length : Int), .int .i64 2, .int .i64 5] rfl gl_ ?_; (with_reducible refine (impl_within.calls (l0.length : Int) 2 5 true _ A2.out).mono ?_); rintro e w' ⟨rfl, ⟨nd, rfl⟩⟩; refine ⟨_, rfl, ?_⟩))
  go_loopg [13] k (fun kq v13 w' => ∃ (x13_1 : Int), v13 = .int .i64 x13_1 ∧ Aside0 (impl_areTeam.l0 kq l0 l0 (l0.length : Int) x13_1 = some r) ∧ Aside0 (kq ≤ k) ∧ Aside0 (Below w.heap.size w w'))
  case atStart => exact ⟨(0), z2_, H', ⟨Nat.le_refl _⟩, ⟨z4_⟩⟩
  case round =>
   clear H'
   (try clear c3); obtain ⟨x13_1, rfl, HA, HK1, HB⟩ := hrel
   cases gk with
   | zero => exact absurd HA.out (by simp [impl_areTeam.l0])
   | succ k1 =>
    have H := HA.out; clear HA
    simp only [impl_areTeam.l0] at H
    by_cases c4 : x13_1 < (l0.length : Int)
    ·rw [if_pos c4] at H
     have c4b0 : decide (x13_1 < (l0.length : Int)) = true := decide_eq_true c4
     clear c4
     by_cases c5 : 0 ≤ x13_1
     ·rw [if_pos c5] at H
      have c5b0 : decide (0 ≤ x13_1) = true := decide_eq_true c5
      clear c5
      by_cases c6 : x13_1 < (l0.length : Int)
      ·rw [if_pos c6] at H
       have c6b0 : decide (x13_1 < (l0.length : Int)) = true := decide_eq_true c6
       clear c6
       have H' := Aside0.mk H
       clear H
       have p123 : 0 ≤ (x13_1 : Int) := od_
       have q123 : x13_1 < (l0.length : Int) := od_
       obtain ⟨ad123, e123, hx123_0, hx123_1, hx123_2, hx123_3⟩ := at_T41 HR0.out x13_1 p123 q123
       cases e123
       replace hx123_0 := (HB.out.cell (World.block_lt_of_cell? w _ hx123_0)).trans hx123_0
       replace hx123_1 := (HB.out.cell (World.block_lt_of_cell? w _ hx123_1)).trans hx123_1
       replace hx123_2 := (HB.out.cell (World.block_lt_of_cell? w _ hx123_2)).trans hx123_2
       replace hx123_3 := (HB.out.cell (World.block_lt_of_cell? w _ hx123_3)).trans hx123_3
       replace p123 := eq_true p123
       replace q123 := eq_true q123
       go_wp2_with (first | ((with_reducible refine gate_dst (N := 4) rfl ?_); refine box_event ?hg (N := 4) ?hd (cs := #[.int .i64 0, .string (⟨#[]⟩ : ByteArray), .int .i64 0, .int .i64 0]) (t := 41) ?hr ?_; (case hd => rfl); (case hg => rfl); (case hr => first | (go_simp; done) | (go_simp; rfl)); intro gb124 hg w7 hbox hb; have n0_ := Aside0.mk (below_step bx_ hb); have n1_ := Aside0.mk (hbox); have n2_ := Aside0.mk ((by rw [hg]; exact (below_size bx_) : w.heap.size ≤ gb124)); have n3_ := Aside0.mk ((by rw [hg]; exact (below_size bx_) : w.heap.size ≤ gb124)); clear HB; have HB := n0_; have BK124 := n1_; have GW124 := n2_; have GE124 := n3_; clear n0_ n1_ n2_ n3_; clear hb hbox hg; have z8_0 : w7.cell? ⟨gb124, 0, none⟩ = some (.int .i64 0) := (blk_cell BK124.out 0).trans rfl; have z8_1 : w7.cell? ⟨gb124, 1, none⟩ = some (.string (⟨#[]⟩ : ByteArray)) := (blk_cell BK124.out 1).trans rfl; have z8_2 : w7.cell? ⟨gb124, 2, none⟩ = some (.int .i64 0) := (blk_cell BK124.out 2).trans rfl; have z8_3 : w7.cell? ⟨gb124, 3, none⟩ = some (.int .i64 0) := (blk_cell BK124.out 3).trans rfl; have y8_0 := blk_frozen BK124.out 0; have y8_1 := blk_frozen BK124.out 1; have y8_2 := blk_frozen BK124.out 2; have y8_3 := blk_frozen BK124.out 3))
       go_loopg [19] k1 (fun kq v19 w' => ∃ (x19_2 : Int), v19 = .int .i64 x19_2 ∧ Aside0 (impl_areTeam.l1 kq l0 l0 (l0.length : Int) x13_1 l0 (l0.length : Int) x19_2 ((rd_T41 l0 x13_1).f0) ((rd_T41 l0 x13_1).f1) ((rd_T41 l0 x13_1).f2) ((rd_T41 l0 x13_1).f3) = some r) ∧ Aside0 (kq ≤ k1) ∧ Aside0 (w'.heap[gb124]? = some (.cells #[.int .i64 ((rd_T41 l0 x13_1).f0), .string ((rd_T41 l0 x13_1).f1), .int .i64 ((rd_T41 l0 x13_1).f2), .int .i64 ((rd_T41 l0 x13_1).f3)] 41 (0, 0))) ∧ Aside0 (Below w.heap.size w w'))
       case atStart => exact ⟨(0), z2_, H', ⟨Nat.le_refl _⟩, ⟨by (with_reducible repeat (first | refine blk_drewN ?_ _ | refine blk_drew ?_ | refine blk_alloc ?_ _)); refine blk_put (cs := #[.int .i64 ((rd_T41 l0 x13_1).f0), .string ((rd_T41 l0 x13_1).f1), .int .i64 ((rd_T41 l0 x13_1).f2), .int .i64 0]) ?_ 3 _ rfl; (with_reducible repeat (first | refine blk_drewN ?_ _ | refine blk_drew ?_ | refine blk_alloc ?_ _)); refine blk_put (cs := #[.int .i64 ((rd_T41 l0 x13_1).f0), .string ((rd_T41 l0 x13_1).f1), .int .i64 0, .int .i64 0]) ?_ 2 _ rfl; (with_reducible repeat (first | refine blk_drewN ?_ _ | refine blk_drew ?_ | refine blk_alloc ?_ _)); refine blk_put (cs := #[.int .i64 ((rd_T41 l0 x13_1).f0), .string (⟨#[]⟩ : ByteArray), .int .i64 0, .int .i64 0]) ?_ 1 _ rfl; (with_reducible repeat (first | refine blk_drewN ?_ _ | refine blk_drew ?_ | refine blk_alloc ?_ _)); refine blk_put (cs := #[.int .i64 0, .string (⟨#[]⟩ : ByteArray), .int .i64 0, .int .i64 0]) ?_ 0 _ rfl; (with_reducible repeat (first | refine blk_drewN ?_ _ | refine blk_drew ?_ | refine blk_alloc ?_ _)); exact BK124.out⟩, ⟨by repeat (first | (with_reducible first | exact HB.out | apply below_alloc | apply pw_below_drewN | apply below_drew1 | refine below_set ?_ GE124.out) | exact HB.out)⟩⟩
       case round =>
        clear H'
        (try clear q1); (try clear hx1); (try clear c3); (try clear c4); (try clear c4b0); (try clear c5); (try clear c5b0); (try clear c6); (try clear c6b0); (try clear z8_0); (try clear z8_1); (try clear z8_2); (try clear z8_3); (try clear y8_0); (try clear y8_1); (try clear y8_2); (try clear y8_3); (try clear hx123_0); (try clear hx123_1); (try clear hx123_2); (try clear hx123_3); (try clear p123); (try clear q123); obtain ⟨x19_2, rfl, HA, HK2, BK124, HB⟩ := hrel
        cases gk with
        | zero => exact absurd HA.out (by simp [impl_areTeam.l1])
        | succ k2 =>
         have H := HA.out; clear HA
         simp only [impl_areTeam.l1] at H
         by_cases c9 : x19_2 < (l0.length : Int)
         ·rw [if_pos c9] at H
          have c9b0 : decide (x19_2 < (l0.length : Int)) = true := decide_eq_true c9
          clear c9
          by_cases c10 : 0 ≤ x19_2
          ·rw [if_pos c10] at H
           have c10b0 : decide (0 ≤ x19_2) = true := decide_eq_true c10
           clear c10
           by_cases c11 : x19_2 < (l0.length : Int)
           ·rw [if_pos c11] at H
            have c11b0 : decide (x19_2 < (l0.length : Int)) = true := decide_eq_true c11
            clear c11
            by_cases c12 : ((rd_T41 l0 x13_1).f0) = ((rd_T41 l0 x19_2).f0)
            ·rw [if_pos c12] at H
             have c12b0 : (((rd_T41 l0 x13_1).f0) == ((rd_T41 l0 x19_2).f0)) = true := beq_iff_eq.mpr c12
             have c12b1 : (((rd_T41 l0 x13_1).f0) != ((rd_T41 l0 x19_2).f0)) = false := bne_eq_false_iff_eq.mpr c12
             clear c12
             have H' := Aside0.mk H
             clear H
             have p125 : 0 ≤ (x19_2 : Int) := od_
             have q125 : x19_2 < (l0.length : Int) := od_
             obtain ⟨ad125, e125, hx125_0, hx125_1, hx125_2, hx125_3⟩ := at_T41 HR0.out x19_2 p125 q125
             obtain rfl : ad123 = ad125 := (by injection e125)
             replace hx125_0 := (HB.out.cell (World.block_lt_of_cell? w _ hx125_0)).trans hx125_0
             replace hx125_1 := (HB.out.cell (World.block_lt_of_cell? w _ hx125_1)).trans hx125_1
             replace hx125_2 := (HB.out.cell (World.block_lt_of_cell? w _ hx125_2)).trans hx125_2
             replace hx125_3 := (HB.out.cell (World.block_lt_of_cell? w _ hx125_3)).trans hx125_3
             replace p125 := eq_true p125
             replace q125 := eq_true q125
             go_wp2_with (first | ((with_reducible refine gate_dst (N := 6) rfl ?_); refine box_event ?hg (N := 6) ?hd (cs := #[.int .i64 0, .string (⟨#[]⟩ : ByteArray), .int .i64 0, .int .i64 0]) (t := 41) ?hr ?_; (case hd => rfl); (case hg => rfl); (case hr => first | (go_simp; done) | (go_simp; rfl)); intro gb126 hg w13 hbox hb; have n0_ := Aside0.mk (blk_below (bk_ BK124) hb); have n1_ := Aside0.mk (below_step bx_ hb); have n2_ := Aside0.mk (hbox); have n3_ := Aside0.mk ((by rw [hg]; exact (below_size bx_) : w.heap.size ≤ gb126)); have n4_ := Aside0.mk ((by rw [hg]; exact (below_size bx_) : w.heap.size ≤ gb126)); have n5_ := Aside0.mk ((by rw [hg]; exact Nat.ne_of_lt (blk_lt (g := gb124) (o := .cells #[.int .i64 ((rd_T41 l0 x13_1).f0), .string ((rd_T41 l0 x13_1).f1), .int .i64 ((rd_T41 l0 x13_1).f2), .int .i64 ((rd_T41 l0 x13_1).f3)] 41 (0, 0)) z21_) : gb124 ≠ gb126)); have n6_ := Aside0.mk ((by rw [hg]; exact Nat.ne_of_gt (blk_lt (g := gb124) (o := .cells #[.int .i64 ((rd_T41 l0 x13_1).f0), .string ((rd_T41 l0 x13_1).f1), .int .i64 ((rd_T41 l0 x13_1).f2), .int .i64 ((rd_T41 l0 x13_1).f3)] 41 (0, 0)) z21_) : gb126 ≠ gb124)); clear BK124; clear HB; have BK124 := n0_; have HB := n1_; have BK126 := n2_; have GW126 := n3_; have GE126 := n4_; have NB124_126 := n5_; have NB126_124 := n6_; clear n0_ n1_ n2_ n3_ n4_ n5_ n6_; clear hb hbox hg; have hnb14 := NB126_124.out; have hnc14 := NB124_126.out; have z15_0 : w13.cell? ⟨gb126, 0, none⟩ = some (.int .i64 0) := (blk_cell BK126.out 0).trans rfl; have z15_1 : w13.cell? ⟨gb126, 1, none⟩ = some (.string (⟨#[]⟩ : ByteArray)) := (blk_cell BK126.out 1).trans rfl; have z15_2 : w13.cell? ⟨gb126, 2, none⟩ = some (.int .i64 0) := (blk_cell BK126.out 2).trans rfl; have z15_3 : w13.cell? ⟨gb126, 3, none⟩ = some (.int .i64 0) := (blk_cell BK126.out 3).trans rfl; have y15_0 := blk_frozen BK126.out 0; have y15_1 := blk_frozen BK126.out 1; have y15_2 := blk_frozen BK126.out 2; have y15_3 := blk_frozen BK126.out 3; have z16_0 : w13.cell? ⟨gb124, 0, none⟩ = some (.int .i64 ((rd_T41 l0 x13_1).f0)) := (blk_cell BK124.out 0).trans rfl; have z16_1 : w13.cell? ⟨gb124, 1, none⟩ = some (.string ((rd_T41 l0 x13_1).f1)) := (blk_cell BK124.out 1).trans rfl; have z16_2 : w13.cell? ⟨gb124, 2, none⟩ = some (.int .i64 ((rd_T41 l0 x13_1).f2)) := (blk_cell BK124.out 2).trans rfl; have z16_3 : w13.cell? ⟨gb124, 3, none⟩ = some (.int .i64 ((rd_T41 l0 x13_1).f3)) := (blk_cell BK124.out 3).trans rfl; have y16_0 := blk_frozen BK124.out 0; have y16_1 := blk_frozen BK124.out 1; have y16_2 := blk_frozen BK124.out 2; have y16_3 := blk_frozen BK124.out 3))
             go_roundg k2
             case measure => have := HK1.out; have := HK2.out; omega
             case rel => exact ⟨(wrap64 (x19_2 + 1)), z2_, H', ⟨by have := HK1.out; have := HK2.out; omega⟩, ⟨z52_⟩, ⟨z43_⟩⟩
            ·rw [if_neg c12] at H
             have c12b0 : (((rd_T41 l0 x13_1).f0) == ((rd_T41 l0 x19_2).f0)) = false := beq_eq_false_iff_ne.mpr c12
             have c12b1 : (((rd_T41 l0 x13_1).f0) != ((rd_T41 l0 x19_2).f0)) = true := bne_iff_ne.mpr c12
             by_cases c17 : (Go.bits .and .i64 ((rd_T41 l0 x13_1).f2) 1) = 0
             ·rw [if_pos c17] at H
              have c17b0 : ((Go.bits .and .i64 ((rd_T41 l0 x13_1).f2) 1) == 0) = true := beq_iff_eq.mpr c17
              have c17b1 : ((Go.bits .and .i64 ((rd_T41 l0 x13_1).f2) 1) != 0) = false := bne_eq_false_iff_eq.mpr c17
              clear c17
              have H' := Aside0.mk H
              clear H
              have p125 : 0 ≤ (x19_2 : Int) := od_
              have q125 : x19_2 < (l0.length : Int) := od_
              obtain ⟨ad125, e125, hx125_0, hx125_1, hx125_2, hx125_3⟩ := at_T41 HR0.out x19_2 p125 q125
              obtain rfl : ad123 = ad125 := (by injection e125)
              replace hx125_0 := (HB.out.cell (World.block_lt_of_cell? w _ hx125_0)).trans hx125_0
              replace hx125_1 := (HB.out.cell (World.block_lt_of_cell? w _ hx125_1)).trans hx125_1
              replace hx125_2 := (HB.out.cell (World.block_lt_of_cell? w _ hx125_2)).trans hx125_2
              replace hx125_3 := (HB.out.cell (World.block_lt_of_cell? w _ hx125_3)).trans hx125_3
              replace p125 := eq_true p125
              replace q125 := eq_true q125
              go_wp2_with (first | ((with_reducible refine gate_dst (N := 6) rfl ?_); refine box_event ?hg (N := 6) ?hd (cs := #[.int .i64 0, .string (⟨#[]⟩ : ByteArray), .int .i64 0, .int .i64 0]) (t := 41) ?hr ?_; (case hd => rfl); (case hg => rfl); (case hr => first | (go_simp; done) | (go_simp; rfl)); intro gb126 hg w18 hbox hb; have n0_ := Aside0.mk (blk_below (bk_ BK124) hb); have n1_ := Aside0.mk (below_step bx_ hb); have n2_ := Aside0.mk (hbox); have n3_ := Aside0.mk ((by rw [hg]; exact (below_size bx_) : w.heap.size ≤ gb126)); have n4_ := Aside0.mk ((by rw [hg]; exact (below_size bx_) : w.heap.size ≤ gb126)); have n5_ := Aside0.mk ((by rw [hg]; exact Nat.ne_of_lt (blk_lt (g := gb124) (o := .cells #[.int .i64 ((rd_T41 l0 x13_1).f0), .string ((rd_T41 l0 x13_1).f1), .int .i64 ((rd_T41 l0 x13_1).f2), .int .i64 ((rd_T41 l0 x13_1).f3)] 41 (0, 0)) z21_) : gb124 ≠ gb126)); have n6_ := Aside0.mk ((by rw [hg]; exact Nat.ne_of_gt (blk_lt (g := gb124) (o := .cells #[.int .i64 ((rd_T41 l0 x13_1).f0), .string ((rd_T41 l0 x13_1).f1), .int .i64 ((rd_T41 l0 x13_1).f2), .int .i64 ((rd_T41 l0 x13_1).f3)] 41 (0, 0)) z21_) : gb126 ≠ gb124)); clear BK124; clear HB; have BK124 := n0_; have HB := n1_; have BK126 := n2_; have GW126 := n3_; have GE126 := n4_; have NB124_126 := n5_; have NB126_124 := n6_; clear n0_ n1_ n2_ n3_ n4_ n5_ n6_; clear hb hbox hg; have hnb19 := NB126_124.out; have hnc19 := NB124_126.out; have z20_0 : w18.cell? ⟨gb126, 0, none⟩ = some (.int .i64 0) := (blk_cell BK126.out 0).trans rfl; have z20_1 : w18.cell? ⟨gb126, 1, none⟩ = some (.string (⟨#[]⟩ : ByteArray)) := (blk_cell BK126.out 1).trans rfl; have z20_2 : w18.cell? ⟨gb126, 2, none⟩ = some (.int .i64 0) := (blk_cell BK126.out 2).trans rfl; have z20_3 : w18.cell? ⟨gb126, 3, none⟩ = some (.int .i64 0) := (blk_cell BK126.out 3).trans rfl; have y20_0 := blk_frozen BK126.out 0; have y20_1 := blk_frozen BK126.out 1; have y20_2 := blk_frozen BK126.out 2; have y20_3 := blk_frozen BK126.out 3; have z21_0 : w18.cell? ⟨gb124, 0, none⟩ = some (.int .i64 ((rd_T41 l0 x13_1).f0)) := (blk_cell BK124.out 0).trans rfl; have z21_1 : w18.cell? ⟨gb124, 1, none⟩ = some (.string ((rd_T41 l0 x13_1).f1)) := (blk_cell BK124.out 1).trans rfl; have z21_2 : w18.cell? ⟨gb124, 2, none⟩ = some (.int .i64 ((rd_T41 l0 x13_1).f2)) := (blk_cell BK124.out 2).trans rfl; have z21_3 : w18.cell? ⟨gb124, 3, none⟩ = some (.int .i64 ((rd_T41 l0 x13_1).f3)) := (blk_cell BK124.out 3).trans rfl; have y21_0 := blk_frozen BK124.out 0; have y21_1 := blk_frozen BK124.out 1; have y21_2 := blk_frozen BK124.out 2; have y21_3 := blk_frozen BK124.out 3))
              go_roundg k2
              case measure => have := HK1.out; have := HK2.out; omega
              case rel => exact ⟨(wrap64 (x19_2 + 1)), z2_, H', ⟨by have := HK1.out; have := HK2.out; omega⟩, ⟨z52_⟩, ⟨z43_⟩⟩
             ·rw [if_neg c17] at H
              have c17b0 : ((Go.bits .and .i64 ((rd_T41 l0 x13_1).f2) 1) == 0) = false := beq_eq_false_iff_ne.mpr c17
              have c17b1 : ((Go.bits .and .i64 ((rd_T41 l0 x13_1).f2) 1) != 0) = true := bne_iff_ne.mpr c17
              by_cases c22 : (Go.bits .and .i64 ((rd_T41 l0 x19_2).f2) 2) = 0
              ·rw [if_pos c22] at H
               have c22b0 : ((Go.bits .and .i64 ((rd_T41 l0 x19_2).f2) 2) == 0) = true := beq_iff_eq.mpr c22
               have c22b1 : ((Go.bits .and .i64 ((rd_T41 l0 x19_2).f2) 2) != 0) = false := bne_eq_false_iff_eq.mpr c22
               clear c22
               have H' := Aside0.mk H
               clear H
               have p125 : 0 ≤ (x19_2 : Int) := od_
               have q125 : x19_2 < (l0.length : Int) := od_
               obtain ⟨ad125, e125, hx125_0, hx125_1, hx125_2, hx125_3⟩ := at_T41 HR0.out x19_2 p125 q125
               obtain rfl : ad123 = ad125 := (by injection e125)
               replace hx125_0 := (HB.out.cell (World.block_lt_of_cell? w _ hx125_0)).trans hx125_0
               replace hx125_1 := (HB.out.cell (World.block_lt_of_cell? w _ hx125_1)).trans hx125_1
               replace hx125_2 := (HB.out.cell (World.block_lt_of_cell? w _ hx125_2)).trans hx125_2
               replace hx125_3 := (HB.out.cell (World.block_lt_of_cell? w _ hx125_3)).trans hx125_3
               replace p125 := eq_true p125
               replace q125 := eq_true q125
               go_wp2_with (first | ((with_reducible refine gate_dst (N := 6) rfl ?_); refine box_event ?hg (N := 6) ?hd (cs := #[.int .i64 0, .string (⟨#[]⟩ : ByteArray), .int .i64 0, .int .i64 0]) (t := 41) ?hr ?_; (case hd => rfl); (case hg => rfl); (case hr => first | (go_simp; done) | (go_simp; rfl)); intro gb126 hg w23 hbox hb; have n0_ := Aside0.mk (blk_below (bk_ BK124) hb); have n1_ := Aside0.mk (below_step bx_ hb); have n2_ := Aside0.mk (hbox); have n3_ := Aside0.mk ((by rw [hg]; exact (below_size bx_) : w.heap.size ≤ gb126)); have n4_ := Aside0.mk ((by rw [hg]; exact (below_size bx_) : w.heap.size ≤ gb126)); have n5_ := Aside0.mk ((by rw [hg]; exact Nat.ne_of_lt (blk_lt (g := gb124) (o := .cells #[.int .i64 ((rd_T41 l0 x13_1).f0), .string ((rd_T41 l0 x13_1).f1), .int .i64 ((rd_T41 l0 x13_1).f2), .int .i64 ((rd_T41 l0 x13_1).f3)] 41 (0, 0)) z21_) : gb124 ≠ gb126)); have n6_ := Aside0.mk ((by rw [hg]; exact Nat.ne_of_gt (blk_lt (g := gb124) (o := .cells #[.int .i64 ((rd_T41 l0 x13_1).f0), .string ((rd_T41 l0 x13_1).f1), .int .i64 ((rd_T41 l0 x13_1).f2), .int .i64 ((rd_T41 l0 x13_1).f3)] 41 (0, 0)) z21_) : gb126 ≠ gb124)); clear BK124; clear HB; have BK124 := n0_; have HB := n1_; have BK126 := n2_; have GW126 := n3_; have GE126 := n4_; have NB124_126 := n5_; have NB126_124 := n6_; clear n0_ n1_ n2_ n3_ n4_ n5_ n6_; clear hb hbox hg; have hnb24 := NB126_124.out; have hnc24 := NB124_126.out; have z25_0 : w23.cell? ⟨gb126, 0, none⟩ = some (.int .i64 0) := (blk_cell BK126.out 0).trans rfl; have z25_1 : w23.cell? ⟨gb126, 1, none⟩ = some (.string (⟨#[]⟩ : ByteArray)) := (blk_cell BK126.out 1).trans rfl; have z25_2 : w23.cell? ⟨gb126, 2, none⟩ = some (.int .i64 0) := (blk_cell BK126.out 2).trans rfl; have z25_3 : w23.cell? ⟨gb126, 3, none⟩ = some (.int .i64 0) := (blk_cell BK126.out 3).trans rfl; have y25_0 := blk_frozen BK126.out 0; have y25_1 := blk_frozen BK126.out 1; have y25_2 := blk_frozen BK126.out 2; have y25_3 := blk_frozen BK126.out 3; have z26_0 : w23.cell? ⟨gb124, 0, none⟩ = some (.int .i64 ((rd_T41 l0 x13_1).f0)) := (blk_cell BK124.out 0).trans rfl; have z26_1 : w23.cell? ⟨gb124, 1, none⟩ = some (.string ((rd_T41 l0 x13_1).f1)) := (blk_cell BK124.out 1).trans rfl; have z26_2 : w23.cell? ⟨gb124, 2, none⟩ = some (.int .i64 ((rd_T41 l0 x13_1).f2)) := (blk_cell BK124.out 2).trans rfl; have z26_3 : w23.cell? ⟨gb124, 3, none⟩ = some (.int .i64 ((rd_T41 l0 x13_1).f3)) := (blk_cell BK124.out 3).trans rfl; have y26_0 := blk_frozen BK124.out 0; have y26_1 := blk_frozen BK124.out 1; have y26_2 := blk_frozen BK124.out 2; have y26_3 := blk_frozen BK124.out 3))
               go_roundg k2
               case measure => have := HK1.out; have := HK2.out; omega
               case rel => exact ⟨(wrap64 (x19_2 + 1)), z2_, H', ⟨by have := HK1.out; have := HK2.out; omega⟩, ⟨z52_⟩, ⟨z43_⟩⟩
              ·rw [if_neg c22] at H
               have c22b0 : ((Go.bits .and .i64 ((rd_T41 l0 x19_2).f2) 2) == 0) = false := beq_eq_false_iff_ne.mpr c22
               have c22b1 : ((Go.bits .and .i64 ((rd_T41 l0 x19_2).f2) 2) != 0) = true := bne_iff_ne.mpr c22
               obtain rfl := Option.some.inj H
               have p125 : 0 ≤ (x19_2 : Int) := od_
               have q125 : x19_2 < (l0.length : Int) := od_
               obtain ⟨ad125, e125, hx125_0, hx125_1, hx125_2, hx125_3⟩ := at_T41 HR0.out x19_2 p125 q125
               obtain rfl : ad123 = ad125 := (by injection e125)
               replace hx125_0 := (HB.out.cell (World.block_lt_of_cell? w _ hx125_0)).trans hx125_0
               replace hx125_1 := (HB.out.cell (World.block_lt_of_cell? w _ hx125_1)).trans hx125_1
               replace hx125_2 := (HB.out.cell (World.block_lt_of_cell? w _ hx125_2)).trans hx125_2
               replace hx125_3 := (HB.out.cell (World.block_lt_of_cell? w _ hx125_3)).trans hx125_3
               replace p125 := eq_true p125
               replace q125 := eq_true q125
               go_wp2_with (first | ((with_reducible refine gate_dst (N := 6) rfl ?_); refine box_event ?hg (N := 6) ?hd (cs := #[.int .i64 0, .string (⟨#[]⟩ : ByteArray), .int .i64 0, .int .i64 0]) (t := 41) ?hr ?_; (case hd => rfl); (case hg => rfl); (case hr => first | (go_simp; done) | (go_simp; rfl)); intro gb126 hg w27 hbox hb; have n0_ := Aside0.mk (blk_below (bk_ BK124) hb); have n1_ := Aside0.mk (below_step bx_ hb); have n2_ := Aside0.mk (hbox); have n3_ := Aside0.mk ((by rw [hg]; exact (below_size bx_) : w.heap.size ≤ gb126)); have n4_ := Aside0.mk ((by rw [hg]; exact (below_size bx_) : w.heap.size ≤ gb126)); have n5_ := Aside0.mk ((by rw [hg]; exact Nat.ne_of_lt (blk_lt (g := gb124) (o := .cells #[.int .i64 ((rd_T41 l0 x13_1).f0), .string ((rd_T41 l0 x13_1).f1), .int .i64 ((rd_T41 l0 x13_1).f2), .int .i64 ((rd_T41 l0 x13_1).f3)] 41 (0, 0)) z21_) : gb124 ≠ gb126)); have n6_ := Aside0.mk ((by rw [hg]; exact Nat.ne_of_gt (blk_lt (g := gb124) (o := .cells #[.int .i64 ((rd_T41 l0 x13_1).f0), .string ((rd_T41 l0 x13_1).f1), .int .i64 ((rd_T41 l0 x13_1).f2), .int .i64 ((rd_T41 l0 x13_1).f3)] 41 (0, 0)) z21_) : gb126 ≠ gb124)); clear BK124; clear HB; have BK124 := n0_; have HB := n1_; have BK126 := n2_; have GW126 := n3_; have GE126 := n4_; have NB124_126 := n5_; have NB126_124 := n6_; clear n0_ n1_ n2_ n3_ n4_ n5_ n6_; clear hb hbox hg; have hnb28 := NB126_124.out; have hnc28 := NB124_126.out; have z29_0 : w27.cell? ⟨gb126, 0, none⟩ = some (.int .i64 0) := (blk_cell BK126.out 0).trans rfl; have z29_1 : w27.cell? ⟨gb126, 1, none⟩ = some (.string (⟨#[]⟩ : ByteArray)) := (blk_cell BK126.out 1).trans rfl; have z29_2 : w27.cell? ⟨gb126, 2, none⟩ = some (.int .i64 0) := (blk_cell BK126.out 2).trans rfl; have z29_3 : w27.cell? ⟨gb126, 3, none⟩ = some (.int .i64 0) := (blk_cell BK126.out 3).trans rfl; have y29_0 := blk_frozen BK126.out 0; have y29_1 := blk_frozen BK126.out 1; have y29_2 := blk_frozen BK126.out 2; have y29_3 := blk_frozen BK126.out 3; have z30_0 : w27.cell? ⟨gb124, 0, none⟩ = some (.int .i64 ((rd_T41 l0 x13_1).f0)) := (blk_cell BK124.out 0).trans rfl; have z30_1 : w27.cell? ⟨gb124, 1, none⟩ = some (.string ((rd_T41 l0 x13_1).f1)) := (blk_cell BK124.out 1).trans rfl; have z30_2 : w27.cell? ⟨gb124, 2, none⟩ = some (.int .i64 ((rd_T41 l0 x13_1).f2)) := (blk_cell BK124.out 2).trans rfl; have z30_3 : w27.cell? ⟨gb124, 3, none⟩ = some (.int .i64 ((rd_T41 l0 x13_1).f3)) := (blk_cell BK124.out 3).trans rfl; have y30_0 := blk_frozen BK124.out 0; have y30_1 := blk_frozen BK124.out 1; have y30_2 := blk_frozen BK124.out 2; have y30_3 := blk_frozen BK124.out 3))
               go_ret
               exact ⟨z7_, z43_⟩
           ·rw [if_neg c11] at H
            exact absurd H (by simp)
          ·rw [if_neg c10] at H
           exact absurd H (by simp)
         ·rw [if_neg c9] at H
          have c9b0 : decide (x19_2 < (l0.length : Int)) = false := decide_eq_false c9
          clear c9
          have H' := Aside0.mk H
          clear H
          go_wp2
          go_roundg k2
          case measure => have := HK1.out; have := HK2.out; omega
          case rel => exact ⟨(wrap64 (x13_1 + 1)), z2_, H', ⟨by have := HK1.out; have := HK2.out; omega⟩, ⟨by repeat (first | (with_reducible first | exact HB.out | apply below_alloc | apply pw_below_drewN | apply below_drew1 | refine below_set ?_ GE124.out) | exact HB.out)⟩⟩
      ·rw [if_neg c6] at H
       exact absurd H (by simp)
     ·rw [if_neg c5] at H
      exact absurd H (by simp)
    ·rw [if_neg c4] at H
     have c4b0 : decide (x13_1 < (l0.length : Int)) = false := decide_eq_false c4
     clear c4
     obtain rfl := Option.some.inj H
     go_wp2
     go_ret
     exact ⟨z7_, z4_⟩
 ·replace c3 := Bool.eq_false_iff.mpr c3
  subst c3
  have H1 : (some false) = some r := by rw [if_neg (show ¬ (false = true) by decide)] at H; exact H
  clear H; have H := H1; clear H1
  obtain rfl := Option.some.inj H
  go_enter Tryz.func45, Tryz.ntmps45
  go_wp2_with (first | ((with_reducible refine gate_callee (f := 57) rfl ?_); refine goesL_ (some 9) rfl rfl Tryz.func57 (by kernel_rfl) rfl #[.int .i64 (l0.length : Int), .int .i64 2, .int .i64 5] rfl gl_ ?_; (with_reducible refine (impl_within.calls (l0.length : Int) 2 5 false _ A2.out).mono ?_); rintro e w' ⟨rfl, ⟨nd, rfl⟩⟩; refine ⟨_, rfl, ?_⟩))
  go_ret
  exact ⟨z7_, z4_⟩

/-! ### impl_IsTeam: function 10 -/
def impl_IsTeam.f (k : Nat) (l0 : List (S41)) (l1 : List Int) : Option (Bool × Bool) := (impl_membersOf.f k l0 l1).bind fun bt127 => (if bt127.2 = true then ((impl_ArePeople.f k l0).bind fun t131 => (if t131 = true then ((impl_areTeam.f k bt127.1).bind fun t132 => (some (t132, true))) else (some (false, false)))) else (some (false, false)))
set_option maxHeartbeats 8000000 in
set_option maxRecDepth 100000 in
theorem impl_IsTeam.calls (k : Nat) (A0 : Option Addr) (c0 : Nat) (l0 : List (S41)) (A1 : Option Addr) (c1 : Nat) (l1 : List Int) (r1 : Bool) (r2 : Bool) (w : World) (hr0 : Kd.C k41 w A0 l0.length l0) (hc0 : l0.length ≤ c0) (hr1 : Kd.C (Kd.int .i64) w A1 l1.length l1) (hc1 : l1.length ≤ c1) (h : impl_IsTeam.f k l0 l1 = some (r1, r2)) :
  Calls Tryz.prog 10 #[.slice A0 l0.length c0, .slice A1 l1.length c1] w fun e w' => e = .returned (.tuple #[.bool r1, .bool r2]) ∧ Below w.heap.size w w' := by
 have HR0 := Aside0.mk hr0; have HC0 := Aside0.mk hc0; clear hr0 hc0; have HR1 := Aside0.mk hr1; have HC1 := Aside0.mk hc1; clear hr1 hc1
 have HB := Aside0.mk (Below.refl w.heap.size w)
 have H : ((impl_membersOf.f k l0 l1).bind fun bt127 => (if bt127.2 = true then ((impl_ArePeople.f k l0).bind fun t131 => (if t131 = true then ((impl_areTeam.f k bt127.1).bind fun t132 => (some (t132, true))) else (some (false, false)))) else (some (false, false)))) = some (r1, r2) := h
 clear h; replace H := Option.bind_eq_some_iff.mp H; obtain ⟨⟨t127, t128⟩, A30, H⟩ := H
 replace H : (if t128 = true then ((impl_ArePeople.f k l0).bind fun t131 => (if t131 = true then ((impl_areTeam.f k t127).bind fun t132 => (some (t132, true))) else (some (false, false)))) else (some (false, false))) = some (r1, r2) := H
 have A3 := Aside0.mk A30; clear A30
 by_cases c4 : t128 = true
 ·subst c4
  have H1 : ((impl_ArePeople.f k l0).bind fun t131 => (if t131 = true then ((impl_areTeam.f k t127).bind fun t132 => (some (t132, true))) else (some (false, false)))) = some (r1, r2) := by rw [if_pos rfl] at H; exact H
  clear H; have H := H1; clear H1; replace H := Option.bind_eq_some_iff.mp H; obtain ⟨t131, A50, H⟩ := H
  replace H : (if t131 = true then ((impl_areTeam.f k t127).bind fun t132 => (some (t132, true))) else (some (false, false))) = some (r1, r2) := H
  have A5 := Aside0.mk A50; clear A50
  by_cases c6 : t131 = true
  ·subst c6
   have H1 : ((impl_areTeam.f k t127).bind fun t132 => (some (t132, true))) = some (r1, r2) := by rw [if_pos rfl] at H; exact H
   clear H; have H := H1; clear H1; replace H := Option.bind_eq_some_iff.mp H; obtain ⟨t132, A70, H⟩ := H
   replace H : (some (t132, true)) = some (r1, r2) := H
   have A7 := Aside0.mk A70; clear A70
   simp only [Option.some.injEq, Prod.mk.injEq] at H
   obtain ⟨rfl, rfl⟩ := H
   go_enter Tryz.func10, Tryz.ntmps10
   go_wp2_with (first | ((with_reducible refine gate_callee (f := 44) rfl ?_); refine goesL_ (some 11) rfl rfl Tryz.func44 (by kernel_rfl) rfl #[.slice A0 l0.length c0, .slice A1 l1.length c1] rfl gl_ ?_; (with_reducible refine (impl_membersOf.calls k _ _ l0 _ _ l1 t127 true _ ?side1 ?side2 ?side3 ?side4 A3.out).mono ?_); (case side1 => exact z12_); (case side2 => exact HC0.out); (case side3 => repeat (first | exact HR1.out | (with_reducible refine Kd.C_alloc ?_ _) | (with_reducible refine Kd.C_drewN ?_ _) | (with_reducible refine Kd.C_drew ?_))); (case side4 => exact HC1.out); rintro e w8 ⟨v129, rfl, ho0, hb⟩; refine ⟨_, rfl, ?_⟩; have n0_ := Aside0.mk (Kd.R_lower ho0 (below_size bx_)); have n1_ := Aside0.mk (below_step bx_ hb); clear HB; have HO130 := n0_; have HB := n1_; clear n0_ n1_; (try clear hb); (try clear hk); (try clear ho0)) | (go_at_call 21; (with_reducible refine (impl_ArePeople.calls k _ _ l0 true _ ?side1 ?side2 A5.out).mono ?_); (case side1 => exact z11_); (case side2 => exact HC0.out); rintro e w9 ⟨rfl, hb⟩; have n0_ := Aside0.mk (Kd.R_below (kr_ HO130) hb); have n1_ := Aside0.mk (below_step bx_ hb); clear HO130; clear HB; have HO130 := n0_; have HB := n1_; clear n0_ n1_; (try clear hb); (try clear hk); obtain ⟨Ao10, co10, eo10⟩ := Kd.R_slice HO130.out; subst eo10) | ((with_reducible refine gate_callee (f := 45) rfl ?_); refine goesL_ (some 22) rfl rfl Tryz.func45 (by kernel_rfl) rfl #[.slice Ao10 t127.length co10] rfl gl_ ?_; (with_reducible refine (impl_areTeam.calls k _ _ t127 t132 _ ?side1 ?side2 A7.out).mono ?_); (case side1 => repeat (first | exact (Kd.R_reads' HO130.out).2.2 | (with_reducible refine Kd.C_alloc ?_ _) | (with_reducible refine Kd.C_drewN ?_ _) | (with_reducible refine Kd.C_drew ?_))); (case side2 => exact (Kd.R_reads' HO130.out).2.1); rintro e w11 ⟨rfl, hb⟩; refine ⟨_, rfl, ?_⟩; have n0_ := Aside0.mk (Kd.R_below (kr_ HO130) hb); have n1_ := Aside0.mk (below_step bx_ hb); clear HO130; clear HB; have HO130 := n0_; have HB := n1_; clear n0_ n1_; (try clear hb); (try clear hk)))
   go_ret2
   exact ⟨z7_, z4_⟩
  ·replace c6 := Bool.eq_false_iff.mpr c6
   subst c6
   have H1 : (some (false, false)) = some (r1, r2) := by rw [if_neg (show ¬ (false = true) by decide)] at H; exact H
   clear H; have H := H1; clear H1
   simp only [Option.some.injEq, Prod.mk.injEq] at H
   obtain ⟨rfl, rfl⟩ := H
   go_enter Tryz.func10, Tryz.ntmps10
   go_wp2_with (first | ((with_reducible refine gate_callee (f := 44) rfl ?_); refine goesL_ (some 11) rfl rfl Tryz.func44 (by kernel_rfl) rfl #[.slice A0 l0.length c0, .slice A1 l1.length c1] rfl gl_ ?_; (with_reducible refine (impl_membersOf.calls k _ _ l0 _ _ l1 t127 true _ ?side1 ?side2 ?side3 ?side4 A3.out).mono ?_); (case side1 => exact z12_); (case side2 => exact HC0.out); (case side3 => repeat (first | exact HR1.out | (with_reducible refine Kd.C_alloc ?_ _) | (with_reducible refine Kd.C_drewN ?_ _) | (with_reducible refine Kd.C_drew ?_))); (case side4 => exact HC1.out); rintro e w12 ⟨v129, rfl, ho0, hb⟩; refine ⟨_, rfl, ?_⟩; have n0_ := Aside0.mk (Kd.R_lower ho0 (below_size bx_)); have n1_ := Aside0.mk (below_step bx_ hb); clear HB; have HO130 := n0_; have HB := n1_; clear n0_ n1_; (try clear hb); (try clear hk); (try clear ho0)) | (go_at_call 21; (with_reducible refine (impl_ArePeople.calls k _ _ l0 false _ ?side1 ?side2 A5.out).mono ?_); (case side1 => exact z11_); (case side2 => exact HC0.out); rintro e w13 ⟨rfl, hb⟩; have n0_ := Aside0.mk (Kd.R_below (kr_ HO130) hb); have n1_ := Aside0.mk (below_step bx_ hb); clear HO130; clear HB; have HO130 := n0_; have HB := n1_; clear n0_ n1_; (try clear hb); (try clear hk)))
   go_ret2
   exact ⟨z7_, z4_⟩
 ·replace c4 := Bool.eq_false_iff.mpr c4
  subst c4
  have H1 : (some (false, false)) = some (r1, r2) := by rw [if_neg (show ¬ (false = true) by decide)] at H; exact H
  clear H; have H := H1; clear H1
  simp only [Option.some.injEq, Prod.mk.injEq] at H
  obtain ⟨rfl, rfl⟩ := H
  go_enter Tryz.func10, Tryz.ntmps10
  go_wp2_with (first | ((with_reducible refine gate_callee (f := 44) rfl ?_); refine goesL_ (some 11) rfl rfl Tryz.func44 (by kernel_rfl) rfl #[.slice A0 l0.length c0, .slice A1 l1.length c1] rfl gl_ ?_; (with_reducible refine (impl_membersOf.calls k _ _ l0 _ _ l1 t127 false _ ?side1 ?side2 ?side3 ?side4 A3.out).mono ?_); (case side1 => exact z12_); (case side2 => exact HC0.out); (case side3 => repeat (first | exact HR1.out | (with_reducible refine Kd.C_alloc ?_ _) | (with_reducible refine Kd.C_drewN ?_ _) | (with_reducible refine Kd.C_drew ?_))); (case side4 => exact HC1.out); rintro e w14 ⟨v129, rfl, ho0, hb⟩; refine ⟨_, rfl, ?_⟩; have n0_ := Aside0.mk (Kd.R_lower ho0 (below_size bx_)); have n1_ := Aside0.mk (below_step bx_ hb); clear HB; have HO130 := n0_; have HB := n1_; clear n0_ n1_; (try clear hb); (try clear hk); (try clear ho0)))
  go_ret2
  exact ⟨z7_, z4_⟩

/-! ### laws_rHas: function 16 -/
def laws_rHas.l0 : Nat → List Int → Int → Int → Option (Bool)
 | 0, _, _, _ => none
 | k + 1, x0, x1, x5 => if x5 < (x0.length : Int) then (if 0 ≤ x5 then (if (rd x0 x5) = x1 then (some true) else (laws_rHas.l0 k x0 x1 (wrap64 (x5 + 1)))) else (none)) else (some false)
def laws_rHas.f (k : Nat) (l0 : List Int) (a1 : Int) : Option (Bool) := laws_rHas.l0 k l0 a1 0
set_option maxHeartbeats 8000000 in
set_option maxRecDepth 100000 in
theorem laws_rHas.calls (k : Nat) (A0 : Option Addr) (c0 : Nat) (l0 : List Int) (a1 : Int) (r : Bool) (w : World) (hr0 : Kd.C (Kd.int .i64) w A0 l0.length l0) (hc0 : l0.length ≤ c0) (h : laws_rHas.f k l0 a1 = some r) :
  Calls Tryz.prog 16 #[.slice A0 l0.length c0, .int .i64 a1] w fun e w' => e = .returned (.bool r) ∧ Drawn0 w w' := by
 have HR0 := Aside0.mk hr0; have HC0 := Aside0.mk hc0; clear hr0 hc0
 have H : (laws_rHas.l0 k l0 a1 0) = some r := h
 clear h
 have H' := Aside0.mk H
 clear H
 go_enter Tryz.func16, Tryz.ntmps16
 go_wp2
 go_loopg [5] k (fun kq v5 w' => ∃ (x5_1 : Int), v5 = .int .i64 x5_1 ∧ Aside0 (laws_rHas.l0 kq l0 a1 x5_1 = some r) ∧ Aside0 (kq ≤ k) ∧ Drawn0 w w')
 case atStart => exact ⟨(0), z2_, H', ⟨Nat.le_refl _⟩, z6_⟩
 case round =>
  clear H'
  (try clear c1); obtain ⟨x5_1, rfl, HA, HK1, ⟨m1, rfl⟩⟩ := hrel
  cases gk with
  | zero => exact absurd HA.out (by simp [laws_rHas.l0])
  | succ k1 =>
   have H := HA.out; clear HA
   simp only [laws_rHas.l0] at H
   by_cases c3 : x5_1 < (l0.length : Int)
   ·rw [if_pos c3] at H
    have c3b0 : decide (x5_1 < (l0.length : Int)) = true := decide_eq_true c3
    clear c3
    by_cases c4 : 0 ≤ x5_1
    ·rw [if_pos c4] at H
     have c4b0 : decide (0 ≤ x5_1) = true := decide_eq_true c4
     clear c4
     by_cases c5 : (rd l0 x5_1) = a1
     ·rw [if_pos c5] at H
      have c5b0 : ((rd l0 x5_1) == a1) = true := beq_iff_eq.mpr c5
      have c5b1 : ((rd l0 x5_1) != a1) = false := bne_eq_false_iff_eq.mpr c5
      clear c5
      obtain rfl := Option.some.inj H
      have p133 : 0 ≤ (x5_1 : Int) := od_
      have q133 : x5_1 < (l0.length : Int) := od_
      obtain ⟨ad133, e133, hx133_0⟩ := Kd.at_int HR0.out x5_1 p133 q133
      cases e133
      replace p133 := eq_true p133
      replace q133 := eq_true q133
      go_wp2
      go_ret
      exact ⟨z2_, z6_⟩
     ·rw [if_neg c5] at H
      have c5b0 : ((rd l0 x5_1) == a1) = false := beq_eq_false_iff_ne.mpr c5
      have c5b1 : ((rd l0 x5_1) != a1) = true := bne_iff_ne.mpr c5
      have H' := Aside0.mk H
      clear H
      have p133 : 0 ≤ (x5_1 : Int) := od_
      have q133 : x5_1 < (l0.length : Int) := od_
      obtain ⟨ad133, e133, hx133_0⟩ := Kd.at_int HR0.out x5_1 p133 q133
      cases e133
      replace p133 := eq_true p133
      replace q133 := eq_true q133
      go_wp2
      go_roundg k1
      case measure => have := HK1.out; omega
      case rel => exact ⟨(wrap64 (x5_1 + 1)), z2_, H', ⟨by have := HK1.out; omega⟩, z6_⟩
    ·rw [if_neg c4] at H
     exact absurd H (by simp)
   ·rw [if_neg c3] at H
    have c3b0 : decide (x5_1 < (l0.length : Int)) = false := decide_eq_false c3
    clear c3
    obtain rfl := Option.some.inj H
    go_wp2
    go_ret
    exact ⟨z2_, z6_⟩

end Go.Proofs.YtafdklajmklmkaaGreatDoor.XFnTeamCounts
