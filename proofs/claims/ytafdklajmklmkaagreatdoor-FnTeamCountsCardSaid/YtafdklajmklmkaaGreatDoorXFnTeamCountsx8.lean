/- Contracts of the functions that the law FnTeamCounts comes to: each is told as a plain function of its arguments, and the machine's call does what that function says; no condition. Written by programs (print.py, xprint.py); Lean checks it. -/
import Derived.Test.YtafdklajmklmkaaGreatDoorXFnTeamCountsx0
import Derived.Test.YtafdklajmklmkaaGreatDoorXFnTeamCountsx7
namespace Go.Proofs.YtafdklajmklmkaaGreatDoor.XFnTeamCounts
open Go.RowKit Go.Proofs.YtafdklajmklmkaaGreatDoorW.PrintWords Go.Proofs.YtafdklajmklmkaaGreatDoorW.PrintLast Go.Proofs.YtafdklajmklmkaaGreatDoorW.PrintMore
attribute [local go_sem] max2_int min2_int max_two min_two max_three min_three max_four min_four   -- for this text's walks alone
set_option linter.unusedVariables false
set_option linter.unusedSimpArgs false

/-! ### impl_others: function 60 (by hand) -/
def eqP (x y : S41) : Bool := decide (x.f0 = y.f0 ∧ x.f1.toList = y.f1.toList ∧ x.f2 = y.f2 ∧ x.f3 = y.f3)
def inP (M : List S41) (x : S41) : Bool := M.any fun y => eqP x y
def delL (l M : List S41) : List S41 := l.filter fun x => !inP M x
theorem rd_P (l : List S41) (j : Nat) (h : j < l.length) : rd_T41 l (j : Int) = l[j] := by simp [rd_T41, h]
theorem rd_P_drop (l : List S41) (j : Nat) (h : j < l.length) : l.drop j = rd_T41 l (j : Int) :: l.drop (j + 1) := by
 rw [List.drop_eq_getElem_cons h, rd_P l j h]
def ixP (p : S41 → Bool) : List S41 → Nat → Int
 | [], _ => -1
 | y :: r, i => if p y = true then (i : Int) else ixP p r (i + 1)
theorem ixP_spec (p : S41 → Bool) : ∀ (l : List S41) (i : Nat), (ixP p l i = -1 ∧ ∀ x ∈ l, p x = false) ∨ ∃ k, k < l.length ∧ ixP p l i = ((i + k : Nat) : Int) ∧ p (rd_T41 l (k : Int)) = true ∧ ∀ x ∈ l.take k, p x = false
 | [], _ => .inl ⟨rfl, fun x hx => by cases hx⟩
 | y :: r, i => by
  cases h : p y with
  | true => exact .inr ⟨0, by simp, by simp [ixP, h], by simpa [rd_T41] using h, fun x hx => by simp at hx⟩
  | false =>
   rcases ixP_spec p r (i + 1) with ⟨e, ha⟩ | ⟨k, hk, e, ht, ha⟩
   ·refine .inl ⟨by simp [ixP, h, e], fun x hx => ?_⟩
    rcases List.mem_cons.mp hx with rfl | hx
    ·exact h
    ·exact ha x hx
   ·refine .inr ⟨k + 1, by simpa using hk, ?_, ?_, fun x hx => ?_⟩
    ·simp only [ixP, h, Bool.false_eq_true, if_false, e]; congr 1; omega
    ·rw [rd_P _ _ (by simpa using hk)]; rw [rd_P _ _ hk] at ht; simpa using ht
    ·rw [List.take_succ_cons] at hx
     rcases List.mem_cons.mp hx with rfl | hx
     ·exact h
     ·exact ha x hx
structure DI (p : S41 → Bool) (l : List S41) (i j : Nat) (cur : List S41) : Prop where
 len : cur.length = l.length
 lt : i < j
 le : j ≤ l.length
 done : cur.take i = (l.take j).filter fun x => !p x
 rest : cur.drop j = l.drop j
theorem take_snoc (l : List S41) (j : Nat) (h : j < l.length) : l.take (j + 1) = l.take j ++ [rd_T41 l (j : Int)] := by
 rw [rd_P l j h, List.take_add_one, List.getElem?_eq_getElem h]; rfl
theorem DI.start {p : S41 → Bool} {l : List S41} {k : Nat} (hk : k < l.length) (h : p (rd_T41 l (k : Int)) = true) (ha : ∀ x ∈ l.take k, p x = false) : DI p l k (k + 1) l := by
 refine ⟨rfl, by omega, by omega, ?_, rfl⟩
 rw [take_snoc l k hk, List.filter_append]
 have e1 : (l.take k).filter (fun x => !p x) = l.take k := List.filter_eq_self.mpr (fun x hx => by simp [ha x hx])
 rw [e1]; simp [h]
theorem DI.keep {p : S41 → Bool} {l cur : List S41} {i j : Nat} (h : DI p l i j cur) (hj : j < l.length) (hp : p (rd_T41 l (j : Int)) = false) : DI p l (i + 1) (j + 1) (cur.set i (rd_T41 l (j : Int))) := by
 have hl := h.len; have hlt := h.lt
 refine ⟨by rw [List.length_set, hl], by omega, by omega, ?_, ?_⟩
 ·rw [take_snoc l j hj, List.filter_append, ← h.done, List.take_add_one, List.getElem?_set_self (by omega), List.take_set_of_le (by omega)]
  simp [hp]
 ·rw [List.drop_set_of_lt (by omega)]
  have := congrArg (List.drop 1) h.rest
  rwa [List.drop_drop, List.drop_drop] at this
theorem DI.skip {p : S41 → Bool} {l cur : List S41} {i j : Nat} (h : DI p l i j cur) (hj : j < l.length) (hp : p (rd_T41 l (j : Int)) = true) : DI p l i (j + 1) cur := by
 refine ⟨h.len, by have := h.lt; omega, by omega, ?_, ?_⟩
 ·rw [take_snoc l j hj, List.filter_append, ← h.done]; simp [hp]
 ·have := congrArg (List.drop 1) h.rest
  rwa [List.drop_drop, List.drop_drop] at this
theorem DI.at_ {p : S41 → Bool} {l cur : List S41} {i j : Nat} (h : DI p l i j cur) (hj : j < l.length) : rd_T41 cur (j : Int) = rd_T41 l (j : Int) := by
 have e := h.rest
 rw [rd_P_drop cur j (by rw [h.len]; exact hj), rd_P_drop l j hj] at e
 exact (List.cons.inj e).1
theorem DI.fin {p : S41 → Bool} {l cur : List S41} {i : Nat} (h : DI p l i l.length cur) : cur.take i = l.filter fun x => !p x := by
 rw [h.done, List.take_length]
instance : Inhabited S41 := ⟨z41⟩
def encP (x : S41) : List Value := [.int .i64 x.f0, .string x.f1, .int .i64 x.f2, .int .i64 x.f3]
theorem eql_P : Go.Proofs.EqlAt Tryz.prog 41 (fun x => .agg (encP x).toArray) eqP := by
 refine ⟨fun x y w => ?_, Go.Proofs.GuardAt.agg _ (by kernel_rfl)⟩
 have hS : Tryz.prog.underlying 41 = some (.struct (Tryz.prog.fieldsOf 41)) := by kernel_rfl
 have hp : Tryz.prog.stoodInHeld 41 = false := by kernel_rfl
 simp only [encP]
 rw [run_eql_struct, show (10000 : Nat) = 9999 + 1 from rfl, run_equalIn_agg w 9999 41 _ _ hS hp]
 simp only [Program.fieldsOf, Tryz.underlying41]
 go_simp
 unfold eqP
 by_cases h0 : x.f0 = y.f0 <;> by_cases h1 : x.f1.toList = y.f1.toList <;> by_cases h2 : x.f2 = y.f2 <;> by_cases h3 : x.f3 = y.f3 <;> simp [h0, h1, h2, h3]
set_option maxHeartbeats 4000000 in
set_option maxRecDepth 100000 in
theorem others_contains (A : Option Addr) (c : Nat) (M : List S41) (x : S41) (w : World) (hr : Kd.C k41 w A M.length M) (hp : 0 < M.length) :
  Calls Tryz.prog 80 #[.slice A M.length c, .agg #[.int .i64 x.f0, .string x.f1, .int .i64 x.f2, .int .i64 x.f3]] w fun e w' => e = .returned (.bool (inP M x)) ∧ Below w.heap.size w w' := by
 obtain ⟨h1, h2, h3⟩ := hr
 obtain ⟨⟨b, off, sp⟩, rfl, hc⟩ := h3 hp
 have hc2 : ∀ j, (hj : j < M.length) → ∀ i v, (encP M[j])[i]? = some v → w.cell? (Addr.add ⟨b, off, sp⟩ (j * 4 + i)) = some v := by
  intro j hj i v hi
  obtain ⟨cs, hl, hK, hcc⟩ := hc j M[j] (List.getElem?_eq_getElem hj)
  obtain rfl := k41_open hK
  exact hcc i v hi
 cases sp with
 | some s =>
  have := hc2 0 hp 0 _ rfl
  simp only [World.cell?, Addr.add] at this
  split at this <;> simp at this
 | none =>
  have hcon := AnyQ.slices_Contains Tryz.conL 4 Tryz.isAgg41 Tryz.sizeOf41 encP (fun _ => rfl) eqP eql_P b off M.length c M x w (Nat.le_refl _) h2 (fun j hj i v hi => by
   rw [getElem!_pos M j hj] at hi
   have := hc2 j hj i v hi
   rw [Addr.add_lit] at this
   rw [Nat.add_assoc]
   exact this)
  rw [List.take_length] at hcon
  exact hcon
set_option maxHeartbeats 4000000 in
set_option maxRecDepth 100000 in
theorem others_pred (gb : Nat) (A : Option Addr) (c : Nat) (M : List S41) (x : S41) (w : World) (hr : Kd.C k41 w A M.length M) (hp : 0 < M.length) (hc : w.cell? ⟨gb, 0, none⟩ = some (.slice A M.length c)) (hg : gb < w.heap.size) :
  Calls Tryz.prog 79 #[.agg #[.int .i64 x.f0, .string x.f1, .int .i64 x.f2, .int .i64 x.f3], .pointer (some ⟨gb, 0, none⟩)] w fun e w' => e = .returned (.bool (inP M x)) ∧ Below w.heap.size w w' := by
 have hne : gb ≠ w.heap.size := by omega
 have HR := Aside0.mk hr; have HP := Aside0.mk hp
 have HB := Aside0.mk (Below.refl w.heap.size w)
 clear hr hp
 go_enter Tryz.func79, Tryz.ntmps79
 go_wp2_with (go_at_call 80; refine (others_contains A c M x _ (Kd.C_below HR.out (by repeat (first | exact HB.out | apply below_alloc | apply pw_below_drewN | apply below_drew1))) HP.out).mono ?_; rintro e w2 ⟨rfl, hb⟩; have HB2 := Aside0.mk (below_step (by repeat (first | exact HB.out | apply below_alloc | apply pw_below_drewN | apply below_drew1)) hb); clear hb)
 go_ret
 exact ⟨rfl, HB2.out⟩
set_option maxHeartbeats 4000000 in
set_option maxRecDepth 100000 in
theorem indexP_calls (A0 : Option Addr) (c0 : Nat) (l0 : List S41) (g : Nat) (p : S41 → Bool) (w0 w : World) (hr0 : Kd.C k41 w A0 l0.length l0) (hB : Below w0.heap.size w0 w)
  (HP : ∀ (x : S41) (W : World), Below w0.heap.size w0 W → Calls Tryz.prog 79 #[.agg #[.int .i64 x.f0, .string x.f1, .int .i64 x.f2, .int .i64 x.f3], .pointer (some ⟨g, 0, none⟩)] W fun e W' => e = .returned (.bool (p x)) ∧ Below W.heap.size W W') :
  Calls Tryz.prog 69 #[.slice A0 l0.length c0, .func (.func 79) #[] #[.pointer (some ⟨g, 0, none⟩)]] w fun e w' => e = .returned (.int .i64 (ixP p l0 0)) ∧ Below w.heap.size w w' := by
 have hu41 := Tryz.underlying41
 have HLen := Aside0.mk (show l0.length ≤ 9223372036854775807 from hr0.2.1)
 have HR0 := Aside0.mk hr0; have HP := Aside0.mk HP; have HB0 := Aside0.mk hB
 obtain ⟨v, hv⟩ : ∃ v, ixP p l0 0 = v := ⟨_, rfl⟩
 rw [hv]
 have HV := Aside0.mk hv; clear hr0 hB hv
 have HB := Aside0.mk (Below.refl w.heap.size w)
 go_enter Tryz.func69, Tryz.ntmps69
 go_wp2
 go_loopg [8] l0.length (fun kq v8 w' => ∃ j : Nat, v8 = .int .i64 j ∧ Aside0 (kq + j = l0.length) ∧ Aside0 (ixP p (l0.drop j) j = v) ∧ Aside0 (Below w.heap.size w w'))
 case atStart => exact ⟨0, rfl, ⟨rfl⟩, HV, HB⟩
 case round =>
  obtain ⟨j, rfl, HJ, HX, HB⟩ := hrel
  cases gk with
  | succ k1 =>
   have c1 : j < l0.length := by have := HJ.out; omega
   obtain ⟨ad, e1, hx0, hx1, hx2, hx3⟩ := at_T41 HR0.out (j : Int) (by omega) (by omega)
   cases e1
   simp only [Int.toNat_natCast] at hx0 hx1 hx2 hx3
   replace hx0 := (HB.out.cell (World.block_lt_of_cell? w _ hx0)).trans hx0
   replace hx1 := (HB.out.cell (World.block_lt_of_cell? w _ hx1)).trans hx1
   replace hx2 := (HB.out.cell (World.block_lt_of_cell? w _ hx2)).trans hx2
   replace hx3 := (HB.out.cell (World.block_lt_of_cell? w _ hx3)).trans hx3
   have c1n : decide (j < l0.length) = true := decide_eq_true c1
   have c1b : decide ((j : Int) < (l0.length : Int)) = true := decide_eq_true (by omega)
   have CJ := Aside0.mk c1; have HY := HX.out
   rw [rd_P_drop l0 j c1] at HY
   simp only [ixP] at HY
   cases c2 : p (rd_T41 l0 (j : Int)) with
   | true =>
    rw [c2, if_pos rfl] at HY
    have HY' := Aside0.mk HY
    have C2 := Aside0.mk c2; clear HY c2
    go_wp2_with (first | (go_at_call 79; refine (HP.out (rd_T41 l0 (j : Int)) _ (HB0.out.trans (HB.out.mono HB0.out.size))).mono ?_; rintro e w2 ⟨rfl, hb⟩; rw [C2.out]; have HB2 := Aside0.mk (below_step HB.out hb); clear hb))
    go_ret
    exact ⟨by rw [← HY'.out]; rfl, HB2.out⟩
   | false =>
    rw [c2, if_neg (by decide)] at HY
    have HY' := Aside0.mk HY
    have C2 := Aside0.mk c2; clear HY c2
    go_wp2_with (first | (go_at_call 79; refine (HP.out (rd_T41 l0 (j : Int)) _ (HB0.out.trans (HB.out.mono HB0.out.size))).mono ?_; rintro e w2 ⟨rfl, hb⟩; rw [C2.out]; have HB2 := Aside0.mk (below_step HB.out hb); clear hb))
    go_roundg k1
    case measure => omega
    case rel =>
     have q := CJ.out; have ql := HLen.out
     exact ⟨j + 1, congrArg (Value.int .i64) (by first | rfl | (unfold wrap64; omega) | omega), ⟨by have := HJ.out; omega⟩, HY', HB2⟩
  | zero =>
   have c1 : ¬ j < l0.length := by have := HJ.out; omega
   have c1n : decide (j < l0.length) = false := decide_eq_false c1
   have c1b : decide ((j : Int) < (l0.length : Int)) = false := decide_eq_false (by omega)
   have HY := HX.out
   rw [List.drop_of_length_le (by omega)] at HY
   have HY' := Aside0.mk (show (-1 : Int) = v from HY)
   clear HY c1
   go_wp2
   go_ret
   exact ⟨by rw [← HY'.out]; rfl, HB.out⟩
theorem below_setCells_ {w0 w : World} (hb : Below w0.heap.size w0 w) {g : Nat} (hg : w0.heap.size ≤ g) : ∀ (o : Nat) (vs : List Value), Below w0.heap.size w0 (w.setCells g o vs) := by
 intro o vs
 induction vs generalizing o w with
 | nil => exact hb
 | cons v r ih => exact ih (below_set hb hg) (o + 1)
theorem clearP (w : World) (b o n c : Nat) (hn : 0 < n) (hc : ∀ q, q < n * 4 → (w.cell? ⟨b, o + q, none⟩).isSome = true ∧ w.frozen? ⟨b, o + q, none⟩ = false) :
  ∃ vs : List Value, vs.length = n * 4 ∧ ∀ ty, (Builtin.clear_ #[24] ty #[.slice (some ⟨b, o, none⟩) n c]).run Tryz.prog w = .ok (.tuple #[]) (w.setCells b o vs) := by
 obtain ⟨z, hz⟩ : ∃ z : Array Value, z = #[.int .i64 0, .string (⟨#[]⟩ : ByteArray), .int .i64 0, .int .i64 0] := ⟨_, rfl⟩
 have hzs : z.size = 4 := by rw [hz]; rfl
 have hv : ∀ w, (zeroValue 41).run Tryz.prog w = .ok (.agg z) w := by rw [hz]; exact Tryz.zeroValue41
 have hvl : (Builtin.zeroCells z n).toList.length = n * 4 := by simp [Builtin.zeroCells, hzs]
 have h1 : ∀ v ∈ (Builtin.zeroCells z n).toList, v.oneCell' = true := by
  intro v hv
  simp only [Builtin.zeroCells, Array.toList_map, List.mem_map] at hv
  obtain ⟨q, _, rfl⟩ := hv
  rw [hzs, hz]
  have hq : q % 4 < 4 := Nat.mod_lt _ (by decide)
  generalize q % 4 = m at hq
  match m, hq with
  | 0, _ => rfl
  | 1, _ => rfl
  | 2, _ => rfl
  | 3, _ => rfl
 have hst := run_storeCells_cells (P := Tryz.prog) b o (Builtin.zeroCells z n).toList 0 w (by rw [hvl]; simpa using fun j hj => (hc j hj).1) (by rw [hvl]; simpa using fun j hj => (hc j hj).2) h1
 simp only [Nat.add_zero] at hst
 refine ⟨(Builtin.zeroCells z n).toList, hvl, fun ty => ?_⟩
 obtain ⟨m, rfl⟩ : ∃ m, n = m + 1 := ⟨n - 1, by omega⟩
 have hcz : (Value.agg z).cells = z := rfl
 simp [Builtin.clear_, run_underlying Tryz.underlying24, hv, hcz, hst]
/-- The row, cut. -/
theorem R_cut {w : World} {base g n cap i : Nat} {ok : Nat → Prop} {xs : List S41} (h : Kd.R k41 41 w base ok (.slice (some ⟨g, 0, none⟩) n cap) xs) (hi : i ≤ n) (vs : List Value) (hm : i * 4 + vs.length ≤ cap * 4) :
  Kd.R k41 41 (w.setCells g (i * 4) vs) base ok (.slice (some ⟨g, 0, none⟩) i cap) (xs.take i) := by
 have hn := (Kd.R_reads' h).1
 have h2 := Kd.R_take h (m := i) (by omega)
 obtain ⟨h0, inner, ⟨ho1, ho2⟩, hr⟩ := h2
 rcases ho2 with ⟨hv, _⟩ | ⟨g', cap', cur, hv, hb, hh, hnc', hcm, hcs, ht⟩
 ·cases hv
 injection hv with ha _ hc
 injection ha with ha
 injection ha with hg
 subst hg; subst hc
 have hl : (xs.take i).length = i := by rw [List.length_take]; omega
 have hsz : k41.sz = 4 := rfl
 have hcz : cur.toList.length = cap * 4 := by rw [Array.length_toList]; exact hcs
 obtain ⟨cur', h3, h4, h5⟩ := setCells_row vs (i * 4) w cur hh (by rw [hcs, hsz]; exact hm)
 refine ⟨h0, inner, ⟨ho1, .inr ⟨g, cap, cur', by rw [hl], hb, h3, hnc', hcm, by rw [h4, hcs], ?_⟩⟩, hr.imp_ (fun _ _ hp => ?_)⟩
 ·rw [← ht]
  apply List.ext_getElem?
  intro q
  rw [List.getElem?_take, List.getElem?_take, hl, hsz]
  by_cases hq : q < i * 4
  ·rw [if_pos hq, if_pos hq, h5, List.append_assoc, List.getElem?_append_left (by rw [List.length_take, hcz]; omega), List.getElem?_take, if_pos hq]
  ·rw [if_neg hq, if_neg hq]
 ·obtain rfl := k41_openM hp
  exact k41_mkM _ _ _ _
set_option maxHeartbeats 8000000 in
set_option maxRecDepth 100000 in
theorem deleteP_calls (l : List S41) (v : Value) (g : Nat) (p : S41 → Bool) (w0 w : World) (hB : Below w0.heap.size w0 w) (hO : Kd.R k41 41 w w0.heap.size (fun _ => True) v l) (hlen : l.length ≤ 1048576)
  (HP : ∀ (x : S41) (W : World), Below w0.heap.size w0 W → Calls Tryz.prog 79 #[.agg #[.int .i64 x.f0, .string x.f1, .int .i64 x.f2, .int .i64 x.f3], .pointer (some ⟨g, 0, none⟩)] W fun e W' => e = .returned (.bool (p x)) ∧ Below W.heap.size W W') :
  Calls Tryz.prog 78 #[v, .func (.func 79) #[] #[.pointer (some ⟨g, 0, none⟩)]] w fun e w' => ∃ v', e = .returned v' ∧ Kd.R k41 41 w' w0.heap.size (fun _ => True) v' (l.filter fun x => !p x) ∧ Below w0.heap.size w0 w' := by
 have hu41 := Tryz.underlying41
 obtain ⟨A, c, rfl⟩ := Kd.R_slice hO
 obtain ⟨_, hlc, hC⟩ := Kd.R_reads' hO
 have HIX := Aside0.mk (indexP_calls A c l g p w0 w hC hB HP)
 have HP := Aside0.mk HP; have HB := Aside0.mk hB; have HO := Aside0.mk hO; have HL := Aside0.mk hlen; have HLC := Aside0.mk hlc
 rcases ixP_spec p l 0 with ⟨e1, ha⟩ | ⟨k0, hk0, e1, ht, ha⟩
 ·have ef : (l.filter fun x => !p x) = l := List.filter_eq_self.mpr (fun x hx => by simp [ha x hx])
  rw [ef]
  rw [e1] at HIX
  clear hB hO hlen hlc hC e1 ha ef
  go_enter Tryz.func78, Tryz.ntmps78
  go_wp2_with (first | (go_at_call 69; refine HIX.out.mono ?_; rintro e w2 ⟨rfl, hb⟩; have HO2 := Aside0.mk (Kd.R_below HO.out hb); have HB2 := Aside0.mk (below_step HB.out hb); clear hb))
  go_ret
  exact ⟨_, rfl, HO2.out, HB2.out⟩
 ·rw [Nat.zero_add] at e1
  rw [e1] at HIX
  obtain ⟨gr, cap, eg, hgr, hgl, _⟩ := Kd.R_form hO (by omega)
  injection eg with ea en ec
  subst ea; subst ec
  have HD := Aside0.mk (DI.start hk0 ht ha)
  have HGR := Aside0.mk hgr; have HK0 := Aside0.mk hk0
  have hne1 : ((k0 : Int) == -1) = false := beq_eq_false_iff_ne.2 (by omega)
  clear hB hO hlen hlc hC e1 ha ht hgl en hgr hk0
  go_enter Tryz.func78, Tryz.ntmps78
  go_wp2_with (first | (go_at_call 69; refine HIX.out.mono ?_; rintro e w2 ⟨rfl, hb⟩; have HO2 := Aside0.mk (Kd.R_below HO.out hb); have HB2 := Aside0.mk (below_step HB.out hb); clear hb))
  go_loopg [5, 6, 7] l.length (fun kq v5 v6 _ w' => ∃ (i j : Nat) (cur : List S41), v5 = .int .i64 i ∧ v6 = .int .i64 j ∧ Aside0 (j ≤ l.length ∧ l.length - j ≤ kq) ∧ Aside0 (DI p l i j cur) ∧ Aside0 (Kd.R k41 41 w' w0.heap.size (fun _ => True) (.slice (some ⟨gr, 0, none⟩) l.length c) cur) ∧ Aside0 (Below w0.heap.size w0 w'))
  case atStart => exact ⟨k0, k0 + 1, l, rfl, congrArg (Value.int .i64) (by have := HK0.out; have := HL.out; first | rfl | (unfold wrap64; omega) | omega), ⟨by have := HK0.out; omega, by omega⟩, HD, HO2, HB2⟩
  case round =>
   clear HO2 HB2 HD HO HB HIX; obtain ⟨i, j, cur, rfl, rfl, HJ, HD, HO, HB⟩ := hrel
   by_cases c1 : j < l.length
   ·have e1 := HD.out.at_ c1
    have hlen := HD.out.len; have hlt := HD.out.lt
    obtain ⟨cj, hclj, hMj, hccj, _⟩ := Kd.R_elem HO.out z41 (j : Int) (by omega) (by omega)
    obtain rfl := k41_openM hMj
    obtain ⟨x, hx⟩ : ∃ x, rd_T41 l (j : Int) = x := ⟨_, rfl⟩
    have hgd : cur.getD (j : Int).toNat z41 = x := e1.trans hx
    rw [hgd] at hccj
    have HX := Aside0.mk hx
    have hx0 : wr.cell? ⟨gr, j * 4, none⟩ = some (.int .i64 x.f0) := hccj 0 _ rfl
    have hx1 : wr.cell? ⟨gr, j * 4 + 1, none⟩ = some (.string x.f1) := hccj 1 _ rfl
    have hx2 : wr.cell? ⟨gr, j * 4 + 2, none⟩ = some (.int .i64 x.f2) := hccj 2 _ rfl
    have hx3 : wr.cell? ⟨gr, j * 4 + 3, none⟩ = some (.int .i64 x.f3) := hccj 3 _ rfl
    have c1b : decide ((j : Int) < (l.length : Int)) = true := decide_eq_true (by omega)
    have cjz : 0 ≤ (j : Int) := by omega
    have cjl : (j : Int) < (l.length : Int) := by omega
    have CJ := Aside0.mk c1
    have HI := Aside0.mk (show i < l.length by omega)
    clear e1 hlen hlt hclj hMj hccj hgd hx
    go_upto_region 8 with (first
     | ((with_reducible refine gate_dst (N := 7) rfl ?_); refine box_event ?hg (N := 7) ?hd (cs := #[.int .i64 0, .string (⟨#[]⟩ : ByteArray), .int .i64 0, .int .i64 0]) (t := 41) ?hr ?_; (case hd => rfl); (case hg => rfl); (case hr => first | (go_simp; done) | (go_simp; rfl)); intro gb hg wB hbox hb; have n0_ := Aside0.mk (Kd.R_below (Kd.R_elderB z42_ gb (Nat.le_of_eq hg.symm)) hb); have n1_ := Aside0.mk (below_step bx_ hb); have n2_ := Aside0.mk hbox; have n3_ := Aside0.mk ((by rw [hg]; exact (below_size bx_)) : w0.heap.size ≤ gb); clear HO HB; have HO := n0_; have HB := n1_; have BK := n2_; have GE := n3_; clear n0_ n1_ n2_ n3_ hb hbox hg; have hcz_0 : wB.cell? ⟨gb, 0, none⟩ = some (.int .i64 0) := (blk_cell BK.out 0).trans rfl; have hcz_1 : wB.cell? ⟨gb, 1, none⟩ = some (.string (⟨#[]⟩ : ByteArray)) := (blk_cell BK.out 1).trans rfl; have hcz_2 : wB.cell? ⟨gb, 2, none⟩ = some (.int .i64 0) := (blk_cell BK.out 2).trans rfl; have hcz_3 : wB.cell? ⟨gb, 3, none⟩ = some (.int .i64 0) := (blk_cell BK.out 3).trans rfl; have hfz_0 := blk_frozen BK.out 0; have hfz_1 := blk_frozen BK.out 1; have hfz_2 := blk_frozen BK.out 2; have hfz_3 := blk_frozen BK.out 3)
     | ((with_reducible refine gate_store (t := 41) (p := 7) rfl ?_); refine store_event (t := 41) (p := 7) (v := ?vo) (w1 := ((((wB.setCell ⟨gb, 0, none⟩ (.int .i64 x.f0)).setCell ⟨gb, 1, none⟩ (.string x.f1)).setCell ⟨gb, 2, none⟩ (.int .i64 x.f2)).setCell ⟨gb, 3, none⟩ (.int .i64 x.f3))) ?hg ?ho ?hn ?hr ?_; (case ho => rfl); (case hg => rfl); (case hn => rfl); (case hr => first | (go_simp; done) | (go_simp; rfl)); intro wC hw; have n0_ : Aside0 (Kd.R k41 41 wC w0.heap.size (fun k_ => k_ ≠ gb) (.slice (some ⟨gr, 0, none⟩) l.length c) cur) := ⟨(by rw [hw]; exact Kd.R_far (p := ⟨gb, 3, none⟩) (Kd.R_far (p := ⟨gb, 2, none⟩) (Kd.R_far (p := ⟨gb, 1, none⟩) (Kd.R_far (p := ⟨gb, 0, none⟩) (Kd.R_mono HO.out (fun k_ hk => (hk.2 : k_ ≠ gb))) (fun _ hk => hk) _) (fun _ hk => hk) _) (fun _ hk => hk) _) (fun _ hk => hk) _)⟩; have n1_ : Aside0 (wC.heap[gb]? = some (.cells #[.int .i64 x.f0, .string x.f1, .int .i64 x.f2, .int .i64 x.f3] 41 (0, 0))) := ⟨(by rw [hw]; refine blk_put (cs := #[.int .i64 x.f0, .string x.f1, .int .i64 x.f2, .int .i64 0]) ?_ 3 _ rfl; refine blk_put (cs := #[.int .i64 x.f0, .string x.f1, .int .i64 0, .int .i64 0]) ?_ 2 _ rfl; refine blk_put (cs := #[.int .i64 x.f0, .string (⟨#[]⟩ : ByteArray), .int .i64 0, .int .i64 0]) ?_ 1 _ rfl; refine blk_put (cs := #[.int .i64 0, .string (⟨#[]⟩ : ByteArray), .int .i64 0, .int .i64 0]) ?_ 0 _ rfl; exact BK.out)⟩; have n2_ : Aside0 (Below w0.heap.size w0 wC) := ⟨(by rw [hw]; exact below_set (below_set (below_set (below_set HB.out GE.out) GE.out) GE.out) GE.out)⟩; clear hw HO BK HB hcz_0 hcz_1 hcz_2 hcz_3 hfz_0 hfz_1 hfz_2 hfz_3; have HO := n0_; have BK := n1_; have HB := n2_; clear n0_ n1_ n2_))
    clear hx0 hx1 hx2 hx3
    have hcz_0 : wC.cell? ⟨gb, 0, none⟩ = some (.int .i64 x.f0) := (blk_cell BK.out 0).trans rfl
    have hcz_1 : wC.cell? ⟨gb, 1, none⟩ = some (.string x.f1) := (blk_cell BK.out 1).trans rfl
    have hcz_2 : wC.cell? ⟨gb, 2, none⟩ = some (.int .i64 x.f2) := (blk_cell BK.out 2).trans rfl
    have hcz_3 : wC.cell? ⟨gb, 3, none⟩ = some (.int .i64 x.f3) := (blk_cell BK.out 3).trans rfl
    cases c2 : p x with
    | true =>
     have C2 := Aside0.mk c2
     have HD2 := Aside0.mk (HD.out.skip CJ.out (by rw [HX.out]; exact c2))
     clear c2
     go_wp2_with (first | (go_at_call 79; refine (HP.out x _ HB.out).mono ?_; rintro e w2 ⟨rfl, hb⟩; rw [C2.out]; have HO2 := Aside0.mk (Kd.R_mono (ok' := fun _ => True) (Kd.R_below HO.out hb) (fun _ _ => trivial)); have HB2 := Aside0.mk (below_step HB.out hb); clear hb))
     go_roundg (l.length - (j + 1))
     case measure => have := CJ.out; have := HJ.out; omega
     case rel => exact ⟨i, j + 1, cur, rfl, congrArg (Value.int .i64) (by have := CJ.out; have := HL.out; first | rfl | (unfold wrap64; omega) | omega), ⟨by have := CJ.out; omega, Nat.le_refl _⟩, HD2, HO2, HB2⟩
    | false =>
     have C2 := Aside0.mk c2
     have HD2 := Aside0.mk (HD.out.keep CJ.out (by rw [HX.out]; exact c2))
     rw [HX.out] at HD2
     clear c2
     have ciz : 0 ≤ (i : Int) := by omega
     have cil : (i : Int) < (l.length : Int) := by have := HI.out; omega
     go_upto_region 9 with (first
      | (go_at_call 79; refine (HP.out x _ HB.out).mono ?_; rintro e w2 ⟨rfl, hb⟩; rw [C2.out]; have n0_ := Aside0.mk (Kd.R_mono (ok' := fun k_ => k_ ≠ gb) (Kd.R_below HO.out hb) (fun _ h_ => h_)); have n1_ := Aside0.mk (blk_below BK.out hb); have n2_ := Aside0.mk (below_step HB.out hb); clear hb HO HB BK hcz_0 hcz_1 hcz_2 hcz_3; have HO := n0_; have BK := n1_; have HB := n2_; clear n0_ n1_ n2_; have hcz_0 : w2.cell? ⟨gb, 0, none⟩ = some (.int .i64 x.f0) := (blk_cell BK.out 0).trans rfl; have hcz_1 : w2.cell? ⟨gb, 1, none⟩ = some (.string x.f1) := (blk_cell BK.out 1).trans rfl; have hcz_2 : w2.cell? ⟨gb, 2, none⟩ = some (.int .i64 x.f2) := (blk_cell BK.out 2).trans rfl; have hcz_3 : w2.cell? ⟨gb, 3, none⟩ = some (.int .i64 x.f3) := (blk_cell BK.out 3).trans rfl; obtain ⟨ci, hcli, hMi, hcci, hfri⟩ := Kd.R_elem HO.out z41 (i : Int) ciz cil; obtain rfl := k41_openM hMi; have hy0 : w2.cell? ⟨gr, i * 4, none⟩ = some (.int .i64 (cur.getD (i : Int).toNat z41).f0) := hcci 0 _ rfl; have hy1 : w2.cell? ⟨gr, i * 4 + 1, none⟩ = some (.string (cur.getD (i : Int).toNat z41).f1) := hcci 1 _ rfl; have hy2 : w2.cell? ⟨gr, i * 4 + 2, none⟩ = some (.int .i64 (cur.getD (i : Int).toNat z41).f2) := hcci 2 _ rfl; have hy3 : w2.cell? ⟨gr, i * 4 + 3, none⟩ = some (.int .i64 (cur.getD (i : Int).toNat z41).f3) := hcci 3 _ rfl; have hf0 : w2.frozen? ⟨gr, i * 4, none⟩ = false := hfri 0; have hf1 : w2.frozen? ⟨gr, i * 4 + 1, none⟩ = false := hfri 1; have hf2 : w2.frozen? ⟨gr, i * 4 + 2, none⟩ = false := hfri 2; have hf3 : w2.frozen? ⟨gr, i * 4 + 3, none⟩ = false := hfri 3; have HSG := Aside0.mk (Kd.R_seg HO.out (i : Int) ciz cil (seg := [.int .i64 x.f0, .string x.f1, .int .i64 x.f2, .int .i64 x.f3]) (j := 0) hcli hcci (show 4 ≤ 4 from by decide) (x' := x) (k41_mkM _ _ _ x) (fun _ hk => hk)); clear hcli hMi hcci hfri))
     go_upto_region 10 with fail
     have HO2 : Aside0 (Kd.R k41 41 ((((w2.setCell ⟨gr, i * 4, none⟩ (.int .i64 x.f0)).setCell ⟨gr, i * 4 + 1, none⟩ (.string x.f1)).setCell ⟨gr, i * 4 + 2, none⟩ (.int .i64 x.f2)).setCell ⟨gr, i * 4 + 3, none⟩ (.int .i64 x.f3)) w0.heap.size (fun _ => True) (.slice (some ⟨gr, 0, none⟩) l.length c) (cur.set i x)) := ⟨Kd.R_mono (ok' := fun _ => True) HSG.out.1 (fun _ _ => trivial)⟩
     have HB2 : Aside0 (Below w0.heap.size w0 ((((w2.setCell ⟨gr, i * 4, none⟩ (.int .i64 x.f0)).setCell ⟨gr, i * 4 + 1, none⟩ (.string x.f1)).setCell ⟨gr, i * 4 + 2, none⟩ (.int .i64 x.f2)).setCell ⟨gr, i * 4 + 3, none⟩ (.int .i64 x.f3))) := ⟨below_set (below_set (below_set (below_set HB.out HGR.out) HGR.out) HGR.out) HGR.out⟩
     clear HSG HO HB BK hcz_0 hcz_1 hcz_2 hcz_3 hy0 hy1 hy2 hy3 hf0 hf1 hf2 hf3
     generalize ((((w2.setCell ⟨gr, i * 4, none⟩ (.int .i64 x.f0)).setCell ⟨gr, i * 4 + 1, none⟩ (.string x.f1)).setCell ⟨gr, i * 4 + 2, none⟩ (.int .i64 x.f2)).setCell ⟨gr, i * 4 + 3, none⟩ (.int .i64 x.f3)) = wD at HO2 HB2 ⊢
     go_wp2
     go_roundg (l.length - (j + 1))
     case measure => have := CJ.out; have := HJ.out; omega
     case rel => exact ⟨i + 1, j + 1, _, congrArg (Value.int .i64) (by have := HI.out; have := HL.out; first | rfl | (unfold wrap64; omega) | omega), congrArg (Value.int .i64) (by have := CJ.out; have := HL.out; first | rfl | (unfold wrap64; omega) | omega), ⟨by have := CJ.out; omega, Nat.le_refl _⟩, HD2, HO2, HB2⟩
   ·have ej : j = l.length := by have := HJ.out; omega
    subst ej
    have c1b : decide ((l.length : Int) < (l.length : Int)) = false := decide_eq_false (by omega)
    have hi := HD.out.lt; have ef := HD.out.fin
    have hn := (Kd.R_reads' HO.out).1
    have hcap := HLC.out
    obtain ⟨vs, hvl, hcl⟩ : ∃ vs : List Value, vs.length = (l.length - i) * 4 ∧ ∀ ty, (Builtin.clear_ #[24] ty #[.slice (some ⟨gr, i * 4, none⟩) (l.length - i) (c - i)]).run Tryz.prog wr = .ok (.tuple #[]) (wr.setCells gr (i * 4) vs) := by
     refine clearP wr gr (i * 4) (l.length - i) (c - i) (by omega) (fun q hq => ?_)
     have hj : (i + q / 4 : Nat) < l.length := by omega
     obtain ⟨ce, hcle, hMe, hcce, hfre⟩ := Kd.R_elem HO.out z41 ((i + q / 4 : Nat) : Int) (by omega) (by omega)
     obtain rfl := k41_openM hMe
     have hq4 : q % 4 < 4 := Nat.mod_lt _ (by decide)
     have ea : i * 4 + q = (i + q / 4) * 4 + q % 4 := by omega
     rw [ea]
     refine ⟨?_, hfre (q % 4)⟩
     have := hcce (q % 4)
     generalize q % 4 = m at hq4 this ⊢
     match m, hq4 with
     | 0, _ => exact (congrArg Option.isSome (this _ rfl)).trans rfl
     | 1, _ => exact (congrArg Option.isSome (this _ rfl)).trans rfl
     | 2, _ => exact (congrArg Option.isSome (this _ rfl)).trans rfl
     | 3, _ => exact (congrArg Option.isSome (this _ rfl)).trans rfl
    have HO3 := Aside0.mk (R_cut HO.out (Nat.le_of_lt hi) vs (by rw [hvl]; omega))
    rw [ef] at HO3
    have HB3 := Aside0.mk (below_setCells_ HB.out HGR.out (i * 4) vs)
    have ciz : 0 ≤ (i : Int) := by omega
    have cil : (i : Int) ≤ (l.length : Int) := by omega
    have cic : (i : Int) ≤ (c : Int) := by omega
    clear HD HO HB ef hn hvl
    go_wp2
    go_ret
    exact ⟨_, rfl, HO3.out, HB3.out⟩
def impl_others.f (l0 l1 : List S41) : Option (List S41) := if l0.length ≤ 1048576 ∧ 0 < l1.length then some (delL l0 l1) else none
set_option maxHeartbeats 4000000 in
set_option maxRecDepth 100000 in
theorem impl_others.calls (A0 : Option Addr) (c0 : Nat) (l0 : List S41) (A1 : Option Addr) (c1 : Nat) (l1 : List S41) (r : List S41) (w : World) (hr0 : Kd.C k41 w A0 l0.length l0) (hc0 : l0.length ≤ c0) (hr1 : Kd.C k41 w A1 l1.length l1) (hc1 : l1.length ≤ c1) (h : impl_others.f l0 l1 = some r) :
  Calls Tryz.prog 60 #[.slice A0 l0.length c0, .slice A1 l1.length c1] w fun e w' => ∃ v0_ : Value, e = .returned v0_ ∧ Kd.R k41 41 w' w.heap.size (fun _ => True) v0_ r ∧ Below w.heap.size w w' := by
 unfold impl_others.f at h
 split at h
 case isFalse => cases h
 rename_i hl
 obtain rfl := Option.some.inj h
 clear h; have HR0 := Aside0.mk hr0; have HR1 := Aside0.mk hr1; have HC0 := Aside0.mk hc0; have HLn := Aside0.mk hl
 have HB := Aside0.mk (Below.refl w.heap.size w)
 clear hr0 hr1 hc0 hc1 hl
 go_enter Tryz.func60, Tryz.ntmps60
 go_upto_region 1 with (first | ((with_reducible refine gate_dst (N := 3) rfl ?_); refine box_event ?hg (N := 3) ?hd (cs := #[.slice A1 l1.length c1]) (t := 24) ?hr ?_; (case hd => rfl); (case hg => rfl); (case hr => first | (go_simp; done) | (go_simp; rfl)); intro gb hg wB hbox hb; have n0_ := Aside0.mk (below_step HB.out hb); have n1_ := Aside0.mk hbox; have n2_ := Aside0.mk (show w.heap.size ≤ gb from by rw [hg]; exact below_size HB.out); clear HB; have HB := n0_; have BK := n1_; have GE := n2_; clear n0_ n1_ n2_ hb hbox hg))
 have hcell : wB.cell? ⟨gb, 0, none⟩ = some (.slice A1 l1.length c1) := (blk_cell BK.out 0).trans rfl
 have HCE := Aside0.mk hcell
 have HGL := Aside0.mk (blk_lt BK.out)
 have HLE := Aside0.mk (below_size HB.out)
 clear hcell
 go_wp2_with (first
  | (go_at_call 48; refine (impl_Person.calls A0 c0 l0 l0 _ (Kd.C_below HR0.out HB.out) HC0.out (by unfold impl_Person.f; rw [if_pos HLn.out.1])).mono ?_; rintro e w2 ⟨v2, rfl, ho, hb⟩; have HO2 := Aside0.mk ho; have HB2 := Aside0.mk hb; clear ho hb)
  | (go_at_call 78; refine (deleteP_calls l0 v2 gb (inP l1) wB _ HB2.out HO2.out HLn.out.1 (fun x W hW => others_pred gb A1 c1 l1 x W (Kd.C_below HR1.out (below_step HB.out hW)) HLn.out.2 ((hW.cell HGL.out).trans HCE.out) (Nat.lt_of_lt_of_le HGL.out hW.size))).mono ?_; rintro e w3 ⟨v3, rfl, ho, hb⟩; have HO3 := Aside0.mk ho; have HB3 := Aside0.mk hb; clear ho hb))
 go_ret
 exact ⟨_, rfl, Kd.R_lower HO3.out HLE.out, below_step HB.out HB3.out⟩


/-! ### impl_canSplit: function 59 -/
mutual
def impl_canSplit.l0 : Nat → List (S41) → Int → List (List (S41)) → Int → Int → Option (Bool)
 | 0, _, _, _, _, _ => none
 | k + 1, x0, x1, x10, x11, x12 => if x12 < x11 then (if 0 ≤ x12 then (if x12 < (x10.length : Int) then ((impl_others.f x0 (rd_L4 x10 x12)).bind fun t271 => ((impl_canSplit.f k t271 (wrap64 (x1 - 1))).bind fun t274 => (if t274 = true then (some true) else (impl_canSplit.l0 k x0 x1 x10 x11 (wrap64 (x12 + 1)))))) else (none)) else (none)) else (some false)
def impl_canSplit.f : Nat → List (S41) → Int → Option (Bool)
 | 0, _, _ => none
 | k + 1, l0, a1 => if a1 = 0 then (some true) else ((impl_teams.f k l0).bind fun t267 => (impl_canSplit.l0 k l0 a1 t267 (t267.length : Int) 0))
end
set_option maxHeartbeats 8000000 in
set_option maxRecDepth 100000 in
theorem impl_canSplit.calls (k : Nat) : ∀ (A0 : Option Addr) (c0 : Nat) (l0 : List (S41)) (a1 : Int) (r : Bool) (w : World) (hr0 : Kd.C k41 w A0 l0.length l0) (hc0 : l0.length ≤ c0) (h : impl_canSplit.f k l0 a1 = some r),
  Calls Tryz.prog 59 #[.slice A0 l0.length c0, .int .i64 a1] w fun e w' => e = .returned (.bool r) ∧ Below w.heap.size w w' := by
 induction k using Nat.strongRecOn with
 | _ k ih =>
 intro A0 c0 l0 a1 r w hr0 hc0 h
 cases k with
 | zero => exact absurd h (by simp [impl_canSplit.f])
 | succ k =>
 simp only [impl_canSplit.f] at h
 have HR0 := Aside0.mk hr0; have HC0 := Aside0.mk hc0; clear hr0 hc0
 have HB := Aside0.mk (Below.refl w.heap.size w)
 have H : (if a1 = 0 then (some true) else ((impl_teams.f k l0).bind fun t267 => (impl_canSplit.l0 k l0 a1 t267 (t267.length : Int) 0))) = some r := h
 clear h
 by_cases c3 : a1 = 0
 ·rw [if_pos c3] at H
  have c3b0 : (a1 == 0) = true := beq_iff_eq.mpr c3
  have c3b1 : (a1 != 0) = false := bne_eq_false_iff_eq.mpr c3
  clear c3
  obtain rfl := Option.some.inj H
  go_enter Tryz.func59, Tryz.ntmps59
  go_wp2
  go_ret
  exact ⟨z7_, z4_⟩
 ·rw [if_neg c3] at H
  have c3b0 : (a1 == 0) = false := beq_eq_false_iff_ne.mpr c3
  have c3b1 : (a1 != 0) = true := bne_iff_ne.mpr c3
  replace H := Option.bind_eq_some_iff.mp H; obtain ⟨t267, A40, H⟩ := H
  replace H : (impl_canSplit.l0 k l0 a1 t267 (t267.length : Int) 0) = some r := H
  have A4 := Aside0.mk A40; clear A40
  have H' := Aside0.mk H
  clear H
  go_enter Tryz.func59, Tryz.ntmps59
  go_wp2_with (first | ((with_reducible refine gate_callee (f := 35) rfl ?_); refine goesL_ (some 10) rfl rfl Tryz.func35 (by kernel_rfl) rfl #[.slice A0 l0.length c0] rfl gl_ ?_; (with_reducible refine (impl_teams.calls k _ _ l0 t267 _ ?side1 ?side2 A4.out).mono ?_); (case side1 => exact z12_); (case side2 => exact HC0.out); rintro e w5 ⟨v268, rfl, ho0, hb⟩; refine ⟨_, rfl, ?_⟩; have n0_ := Aside0.mk (Kd.S_lower ho0 (below_size bx_)); have n1_ := Aside0.mk (below_step bx_ hb); clear HB; have HO269 := n0_; have HB := n1_; clear n0_ n1_; (try clear hb); (try clear hk); (try clear hi); (try clear ho0); obtain ⟨Ao6, co6, eo6⟩ := Kd.S_slice HO269.out; subst eo6))
  go_loopg [12] k (fun kq v12 w' => ∃ (x12_1 : Int), v12 = .int .i64 x12_1 ∧ Aside0 (impl_canSplit.l0 kq l0 a1 t267 (t267.length : Int) x12_1 = some r) ∧ Aside0 (kq ≤ k) ∧ Aside0 (Kd.S (Kd.slice 41 k41) 24 w' w.heap.size (fun _ => True) (.slice Ao6 t267.length co6) t267) ∧ Aside0 (Below w.heap.size w w'))
  case atStart => exact ⟨(0), z2_, H', ⟨Nat.le_refl _⟩, ⟨by (with_reducible repeat (first | apply Kd.S_alloc | apply Kd.S_drewN | apply Kd.S_drew)); exact HO269.out⟩, ⟨z4_⟩⟩
  case round =>
   clear H'
   (try clear c3); (try clear c3b0); (try clear c3b1); obtain ⟨x12_1, rfl, HA, HK1, HO_10, HB⟩ := hrel
   cases gk with
   | zero => exact absurd HA.out (by simp [impl_canSplit.l0])
   | succ k1 =>
    have H := HA.out; clear HA
    simp only [impl_canSplit.l0] at H
    by_cases c7 : x12_1 < (t267.length : Int)
    ·rw [if_pos c7] at H
     have c7b0 : decide (x12_1 < (t267.length : Int)) = true := decide_eq_true c7
     clear c7
     by_cases c8 : 0 ≤ x12_1
     ·rw [if_pos c8] at H
      have c8b0 : decide (0 ≤ x12_1) = true := decide_eq_true c8
      clear c8
      by_cases c9 : x12_1 < (t267.length : Int)
      ·rw [if_pos c9] at H
       have c9b0 : decide (x12_1 < (t267.length : Int)) = true := decide_eq_true c9
       clear c9; replace H := Option.bind_eq_some_iff.mp H; obtain ⟨t271, A100, H⟩ := H
       replace H : ((impl_canSplit.f k1 t271 (wrap64 (a1 - 1))).bind fun t274 => (if t274 = true then (some true) else (impl_canSplit.l0 k1 l0 a1 t267 (t267.length : Int) (wrap64 (x12_1 + 1))))) = some r := H
       have A10 := Aside0.mk A100; clear A100; replace H := Option.bind_eq_some_iff.mp H; obtain ⟨t274, A110, H⟩ := H
       replace H : (if t274 = true then (some true) else (impl_canSplit.l0 k1 l0 a1 t267 (t267.length : Int) (wrap64 (x12_1 + 1)))) = some r := H
       have A11 := Aside0.mk A110; clear A110
       by_cases c12 : t274 = true
       ·subst c12
        have H1 : (some true) = some r := by rw [if_pos rfl] at H; exact H
        clear H; have H := H1; clear H1
        obtain rfl := Option.some.inj H
        have p270 : 0 ≤ (x12_1 : Int) := od_
        have q270 : x12_1 < (t267.length : Int) := od_
        obtain ⟨ad270, A270_0, c270_0, e270, hx270_0, hl270_0, hi270_0⟩ := at_L4 (Kd.S_reads' HO_10.out).2.2 x12_1 p270 q270
        cases e270
        obtain ⟨ce270, hce270, hMe270, hcc270⟩ := Kd.S_get HO_10.out [] x12_1 p270 (by first | exact q270 | exact od_ | (have e_ := (Kd.S_reads' HO_10.out).1; omega))
        obtain ⟨ve270_0, rfl, ge270_0⟩ := hMe270; have hv270_0 := hcc270 0 _ rfl
        rw [Nat.add_zero, show ((Kd.slice 41 k41)).sz = 1 from rfl, Nat.mul_one] at hv270_0
        replace hv270_0 := Option.some.inj (hv270_0.symm.trans hx270_0)
        rw [hv270_0] at ge270_0
        have HL270_0 := Aside0.mk (show Kd.R k41 41 _ _ _ _ (rd_L4 t267 x12_1) from ge270_0)
        clear hv270_0 ge270_0; clear hcc270 hce270; have HR270_0 := Aside0.mk hi270_0; have HC270_0 := Aside0.mk hl270_0; clear hi270_0 hl270_0
        replace p270 := eq_true p270
        replace q270 := eq_true q270
        go_wp2_with (first | ((with_reducible refine gate_callee (f := 60) rfl ?_); refine goesL_ (some 18) rfl rfl Tryz.func60 (by kernel_rfl) rfl #[.slice A0 l0.length c0, .slice A270_0 (rd_L4 t267 x12_1).length c270_0] rfl gl_ ?_; (with_reducible refine (impl_others.calls _ _ l0 _ _ (rd_L4 t267 x12_1) t271 _ ?side1 ?side2 ?side3 ?side4 A10.out).mono ?_); (case side1 => exact z11_); (case side2 => exact HC0.out); (case side3 => repeat (first | exact z32_ | (with_reducible refine Kd.C_alloc ?_ _) | (with_reducible refine Kd.C_drewN ?_ _) | (with_reducible refine Kd.C_drew ?_))); (case side4 => exact HC270_0.out); rintro e w13 ⟨v272, rfl, ho0, hb⟩; refine ⟨_, rfl, ?_⟩; have n0_ := Aside0.mk (Kd.S_elder' z45_ (Kd.R_base ho0) hb); have n1_ := Aside0.mk (Kd.R_elder' z33_ (Kd.R_base ho0) hb); have n2_ := Aside0.mk (Kd.R_lower (Kd.R_new' ho0 (Kd.R_lt z33_)) (below_size bx_)); have n3_ := Aside0.mk (Kd.C_below z32_ hb); have n4_ := Aside0.mk (below_step bx_ hb); clear HO_10; clear HL270_0; clear HR270_0; clear HB; have HO_10 := n0_; have HL270_0 := n1_; have HO273 := n2_; have HR270_0 := n3_; have HB := n4_; clear n0_ n1_ n2_ n3_ n4_; (try clear hb); (try clear hk); (try clear hi); (try clear ho0); obtain ⟨Ao14, co14, eo14⟩ := Kd.R_slice HO273.out; subst eo14) | ((with_reducible refine gate_callee (f := 59) rfl ?_); refine goesL_ (some 21) rfl rfl Tryz.func59 (by kernel_rfl) rfl #[.slice Ao14 t271.length co14, .int .i64 (wrap64 (a1 - 1))] rfl gl_ ?_; (with_reducible refine (ih k1 (by have := HK1.out; omega) _ _ t271 (wrap64 (a1 - 1)) true _ ?side1 ?side2 A11.out).mono ?_); (case side1 => repeat (first | exact (Kd.R_reads' HO273.out).2.2 | (with_reducible refine Kd.C_alloc ?_ _) | (with_reducible refine Kd.C_drewN ?_ _) | (with_reducible refine Kd.C_drew ?_))); (case side2 => exact (Kd.R_reads' HO273.out).2.1); rintro e w15 ⟨rfl, hb⟩; refine ⟨_, rfl, ?_⟩; have n0_ := Aside0.mk (Kd.S_below z45_ hb); have n1_ := Aside0.mk (Kd.R_below z33_ hb); have n2_ := Aside0.mk (Kd.R_below (kr_ HO273) hb); have n3_ := Aside0.mk (Kd.C_below z32_ hb); have n4_ := Aside0.mk (below_step bx_ hb); clear HO_10; clear HL270_0; clear HO273; clear HR270_0; clear HB; have HO_10 := n0_; have HL270_0 := n1_; have HO273 := n2_; have HR270_0 := n3_; have HB := n4_; clear n0_ n1_ n2_ n3_ n4_; (try clear hb); (try clear hk); (try clear hi)))
        go_ret
        exact ⟨z7_, z4_⟩
       ·replace c12 := Bool.eq_false_iff.mpr c12
        subst c12
        have H1 : (impl_canSplit.l0 k1 l0 a1 t267 (t267.length : Int) (wrap64 (x12_1 + 1))) = some r := by rw [if_neg (show ¬ (false = true) by decide)] at H; exact H
        clear H; have H := H1; clear H1
        have H' := Aside0.mk H
        clear H
        have p270 : 0 ≤ (x12_1 : Int) := od_
        have q270 : x12_1 < (t267.length : Int) := od_
        obtain ⟨ad270, A270_0, c270_0, e270, hx270_0, hl270_0, hi270_0⟩ := at_L4 (Kd.S_reads' HO_10.out).2.2 x12_1 p270 q270
        cases e270
        obtain ⟨ce270, hce270, hMe270, hcc270⟩ := Kd.S_get HO_10.out [] x12_1 p270 (by first | exact q270 | exact od_ | (have e_ := (Kd.S_reads' HO_10.out).1; omega))
        obtain ⟨ve270_0, rfl, ge270_0⟩ := hMe270; have hv270_0 := hcc270 0 _ rfl
        rw [Nat.add_zero, show ((Kd.slice 41 k41)).sz = 1 from rfl, Nat.mul_one] at hv270_0
        replace hv270_0 := Option.some.inj (hv270_0.symm.trans hx270_0)
        rw [hv270_0] at ge270_0
        have HL270_0 := Aside0.mk (show Kd.R k41 41 _ _ _ _ (rd_L4 t267 x12_1) from ge270_0)
        clear hv270_0 ge270_0; clear hcc270 hce270; have HR270_0 := Aside0.mk hi270_0; have HC270_0 := Aside0.mk hl270_0; clear hi270_0 hl270_0
        replace p270 := eq_true p270
        replace q270 := eq_true q270
        go_wp2_with (first | ((with_reducible refine gate_callee (f := 60) rfl ?_); refine goesL_ (some 18) rfl rfl Tryz.func60 (by kernel_rfl) rfl #[.slice A0 l0.length c0, .slice A270_0 (rd_L4 t267 x12_1).length c270_0] rfl gl_ ?_; (with_reducible refine (impl_others.calls _ _ l0 _ _ (rd_L4 t267 x12_1) t271 _ ?side1 ?side2 ?side3 ?side4 A10.out).mono ?_); (case side1 => exact z11_); (case side2 => exact HC0.out); (case side3 => repeat (first | exact z32_ | (with_reducible refine Kd.C_alloc ?_ _) | (with_reducible refine Kd.C_drewN ?_ _) | (with_reducible refine Kd.C_drew ?_))); (case side4 => exact HC270_0.out); rintro e w16 ⟨v272, rfl, ho0, hb⟩; refine ⟨_, rfl, ?_⟩; have n0_ := Aside0.mk (Kd.S_elder' z45_ (Kd.R_base ho0) hb); have n1_ := Aside0.mk (Kd.R_elder' z33_ (Kd.R_base ho0) hb); have n2_ := Aside0.mk (Kd.R_lower (Kd.R_new' ho0 (Kd.R_lt z33_)) (below_size bx_)); have n3_ := Aside0.mk (Kd.C_below z32_ hb); have n4_ := Aside0.mk (below_step bx_ hb); clear HO_10; clear HL270_0; clear HR270_0; clear HB; have HO_10 := n0_; have HL270_0 := n1_; have HO273 := n2_; have HR270_0 := n3_; have HB := n4_; clear n0_ n1_ n2_ n3_ n4_; (try clear hb); (try clear hk); (try clear hi); (try clear ho0); obtain ⟨Ao17, co17, eo17⟩ := Kd.R_slice HO273.out; subst eo17) | ((with_reducible refine gate_callee (f := 59) rfl ?_); refine goesL_ (some 21) rfl rfl Tryz.func59 (by kernel_rfl) rfl #[.slice Ao17 t271.length co17, .int .i64 (wrap64 (a1 - 1))] rfl gl_ ?_; (with_reducible refine (ih k1 (by have := HK1.out; omega) _ _ t271 (wrap64 (a1 - 1)) false _ ?side1 ?side2 A11.out).mono ?_); (case side1 => repeat (first | exact (Kd.R_reads' HO273.out).2.2 | (with_reducible refine Kd.C_alloc ?_ _) | (with_reducible refine Kd.C_drewN ?_ _) | (with_reducible refine Kd.C_drew ?_))); (case side2 => exact (Kd.R_reads' HO273.out).2.1); rintro e w18 ⟨rfl, hb⟩; refine ⟨_, rfl, ?_⟩; have n0_ := Aside0.mk (Kd.S_below z45_ hb); have n1_ := Aside0.mk (Kd.R_below z33_ hb); have n2_ := Aside0.mk (Kd.R_below (kr_ HO273) hb); have n3_ := Aside0.mk (Kd.C_below z32_ hb); have n4_ := Aside0.mk (below_step bx_ hb); clear HO_10; clear HL270_0; clear HO273; clear HR270_0; clear HB; have HO_10 := n0_; have HL270_0 := n1_; have HO273 := n2_; have HR270_0 := n3_; have HB := n4_; clear n0_ n1_ n2_ n3_ n4_; (try clear hb); (try clear hk); (try clear hi)))
        go_roundg k1
        case measure => have := HK1.out; omega
        case rel => exact ⟨(wrap64 (x12_1 + 1)), z2_, H', ⟨by have := HK1.out; omega⟩, ⟨by (with_reducible repeat (first | apply Kd.S_alloc | apply Kd.S_drewN | apply Kd.S_drew)); exact Kd.S_mono HO_10.out (fun _ hk => trivial)⟩, ⟨z4_⟩⟩
      ·rw [if_neg c9] at H
       exact absurd H (by simp)
     ·rw [if_neg c8] at H
      exact absurd H (by simp)
    ·rw [if_neg c7] at H
     have c7b0 : decide (x12_1 < (t267.length : Int)) = false := decide_eq_false c7
     clear c7
     obtain rfl := Option.some.inj H
     go_wp2
     go_ret
     exact ⟨z7_, z4_⟩

end Go.Proofs.YtafdklajmklmkaaGreatDoor.XFnTeamCounts
