/- Contracts of the functions that the law FnExactDeepestStation comes to: each is told as a plain function of its arguments, and the machine's call does what that function says; no condition. Written by programs (print.py, xprint.py); Lean checks it. -/
import Derived.Test.YtjcmolbaanedaaaDoorXFnExactDeepestStationx0
import Derived.Test.YtjcmolbaanedaaaDoorXFnExactDeepestStationx5
namespace Go.Proofs.YtjcmolbaanedaaaDoor.XFnExactDeepestStation
open Go.RowKit Go.Proofs.YtjcmolbaanedaaaDoorW.PrintWords Go.Proofs.YtjcmolbaanedaaaDoorW.PrintLast Go.Proofs.YtjcmolbaanedaaaDoorW.PrintMore
attribute [local go_sem] max2_int min2_int max_two min_two max_three min_three max_four min_four   -- for this text's walks alone
set_option linter.unusedVariables false
set_option linter.unusedSimpArgs false

/-! ### impl_place: function 52 (by hand) -/
/-- One leg of a round: the stations' marks, their places, the tree's marks, whether something was placed. -/
def netStep (k : Nat) (x : S28) (i : Nat) (P : List Bool) (Q : List S25) (T : List Bool) (again : Bool) : Option (List Bool × List S25 × List Bool × Bool) :=
  if 0 ≤ x.f0 ∧ x.f0 < 8 ∧ 0 ≤ x.f1 ∧ x.f1 < 8 then
    if P.getD x.f0.toNat false = P.getD x.f1.toNat false then some (P, Q, T, again)
    else if P.getD x.f0.toNat false = true then
      (impl_Leg_shift.f k x.f0 x.f1 x.f2 x.f3 x.f4).bind fun s => (impl_Shift_plus.f (Q.getD x.f0.toNat ⟨0, 0, 0⟩).f0 (Q.getD x.f0.toNat ⟨0, 0, 0⟩).f1 (Q.getD x.f0.toNat ⟨0, 0, 0⟩).f2 s.1 s.2.1 s.2.2 1).bind fun q =>
        some (P.set x.f1.toNat true, Q.set x.f1.toNat ⟨q.1, q.2.1, q.2.2⟩, T.set i true, true)
    else
      (impl_Leg_shift.f k x.f0 x.f1 x.f2 x.f3 x.f4).bind fun s => (impl_Shift_plus.f (Q.getD x.f1.toNat ⟨0, 0, 0⟩).f0 (Q.getD x.f1.toNat ⟨0, 0, 0⟩).f1 (Q.getD x.f1.toNat ⟨0, 0, 0⟩).f2 s.1 s.2.1 s.2.2 (-1)).bind fun q =>
        some (P.set x.f0.toNat true, Q.set x.f0.toNat ⟨q.1, q.2.1, q.2.2⟩, T.set i true, true)
  else none
/-- One round over the legs from the i-th on. -/
def netRow (k : Nat) : List S28 → Nat → List Bool → List S25 → List Bool → Bool → Option (List Bool × List S25 × List Bool × Bool)
  | [], _, P, Q, T, again => some (P, Q, T, again)
  | x :: xs, i, P, Q, T, again => (netStep k x i P Q T again).bind fun t => netRow k xs (i + 1) t.1 t.2.1 t.2.2.1 t.2.2.2
/-- Rounds until nothing is placed any more. -/
def netRun (k : Nat) (legs : List S28) : Nat → List Bool → List S25 → List Bool → Option (List Bool × List S25 × List Bool)
  | 0, _, _, _ => none
  | m + 1, P, Q, T => (netRow k legs 0 P Q T false).bind fun t => if t.2.2.2 = true then netRun k legs m t.1 t.2.1 t.2.2.1 else some (t.1, t.2.1, t.2.2.1)
/-- The closing legs from the i-th on. -/
def netClosing (P T : List Bool) : List S28 → Nat → List Int
  | [], _ => []
  | x :: xs, i => if P.getD x.f0.toNat false = true ∧ T.getD i false = false then (i : Int) :: netClosing P T xs (i + 1) else netClosing P T xs (i + 1)
def impl_place.f (k : Nat) (l0 : List S28) : Option (List Bool × List S25 × List Bool × List Int) :=
  if l0.length ≤ 12 then (netRun k l0 k [true, false, false, false, false, false, false, false] (List.replicate 8 ⟨0, 0, 0⟩) (List.replicate l0.length false)).bind fun t => some (t.1, t.2.1, t.2.2, netClosing t.1 t.2.2 l0 0) else none
theorem netStep.mono (k : Nat) (x : S28) (i : Nat) (P : List Bool) (Q : List S25) (T : List Bool) (again : Bool) : LeO (netStep k x i P Q T again) (netStep (k + 1) x i P Q T again) := by
  have ih0 := impl_Leg_shift.mono x.f0 x.f1 x.f2 x.f3 x.f4 k
  unfold netStep
  repeat' first
    | exact ih0
    | exact LeO.refl _
    | refine LeO.ite ?_ ?_
    | refine LeO.bind ?_ (fun _ => ?_)
theorem netRow.mono (k : Nat) : ∀ (l : List S28) (i : Nat) (P : List Bool) (Q : List S25) (T : List Bool) (again : Bool), LeO (netRow k l i P Q T again) (netRow (k + 1) l i P Q T again)
  | [], _, _, _, _, _ => LeO.refl _
  | x :: xs, i, P, Q, T, again => by
    simp only [netRow]
    exact LeO.bind (netStep.mono k x i P Q T again) (fun t => netRow.mono k xs (i + 1) t.1 t.2.1 t.2.2.1 t.2.2.2)
theorem netRun.mono (k : Nat) (l : List S28) : ∀ (m : Nat) (P : List Bool) (Q : List S25) (T : List Bool), LeO (netRun k l m P Q T) (netRun (k + 1) l (m + 1) P Q T)
  | 0, _, _, _ => LeO.none _
  | m + 1, P, Q, T => by
    have ih := netRun.mono k l m
    rw [netRun, netRun.eq_2 (k + 1)]
    refine LeO.bind (netRow.mono k l 0 P Q T false) (fun t => ?_)
    exact LeO.ite (ih t.1 t.2.1 t.2.2.1) (LeO.refl _)
theorem impl_place.mono : ∀ a0 k, LeO (impl_place.f k a0) (impl_place.f (k + 1) a0) := by
  intro a0 k
  unfold impl_place.f
  exact LeO.ite (LeO.bind (netRun.mono k a0 k _ _ _) (fun _ => LeO.refl _)) (LeO.refl _)

def encQ (Q : List S25) : List Value := (Q.map fun s => [Value.int .i64 s.f0, Value.int .i64 s.f1, Value.int .i64 s.f2]).flatten
def encN (P : List Bool) (Q : List S25) (vT vC : Value) : Array Value := (P.map Value.bool ++ encQ Q ++ [vT, vC]).toArray
theorem rd_T28_drop (l : List S28) (j : Nat) (h : j < l.length) : l.drop j = rd_T28 l (j : Int) :: l.drop (j + 1) := by
  rw [List.drop_eq_getElem_cons h]
  congr 1
  simp [rd_T28, h]
structure IsNet (w0 w : World) (g : Nat) (P : List Bool) (Q : List S25) (T : List Bool) (C : List Int) : Prop where
  pl : P.length = 8
  ql : Q.length = 8
  ge : w0.heap.size ≤ g
  tl : T.length ≤ 12
  cells : ∃ gT vC, w.heap[g]? = some (.cells (encN P Q (.slice (some ⟨gT, 0, none⟩) T.length T.length) vC) 68 (0, 0)) ∧ w.heap[gT]? = some (.cells (T.map Value.bool).toArray 4 (0, 0)) ∧ Kd.R (Kd.int .i64) 3 w w0.heap.size (fun k_ => k_ ≠ g) vC C
theorem IsNet.step {w0 w w2 : World} {g : Nat} {P : List Bool} {Q : List S25} {T : List Bool} {C : List Int} (h : IsNet w0 w g P Q T C) (hb : Below w.heap.size w w2) : IsNet w0 w2 g P Q T C := by
  obtain ⟨gT, vC, h1, h2, h3⟩ := h.cells
  exact ⟨h.pl, h.ql, h.ge, h.tl, gT, vC, blk_below h1 hb, blk_below h2 hb, Kd.R_below h3 hb⟩
theorem info4 : (Tryd.prog.info? 4).map (fun i => (i.zero, i.size, i.bytes)) = some (some (.bool false), 1, 1) := by kernel_rfl

theorem encQ_len (Q : List S25) : (encQ Q).length = 3 * Q.length := by
  induction Q with
  | nil => rfl
  | cons a Q ih => simp only [encQ, List.map_cons, List.flatten_cons, List.length_append] at *; simp [ih]; omega
theorem encQ_get : ∀ (Q : List S25) (i c : Nat), i < Q.length → c < 3 → (encQ Q)[3 * i + c]? = some (.int .i64 (if c = 0 then (Q.getD i ⟨0, 0, 0⟩).f0 else if c = 1 then (Q.getD i ⟨0, 0, 0⟩).f1 else (Q.getD i ⟨0, 0, 0⟩).f2))
  | [], i, c, h, _ => by simp at h
  | q :: Q, 0, c, _, hc => by
    have : c = 0 ∨ c = 1 ∨ c = 2 := by omega
    rcases this with rfl | rfl | rfl <;> simp [encQ]
  | q :: Q, i + 1, c, h, hc => by
    have ih := encQ_get Q i c (by simpa using h) hc
    have e : encQ (q :: Q) = [Value.int .i64 q.f0, Value.int .i64 q.f1, Value.int .i64 q.f2] ++ encQ Q := by simp [encQ]
    rw [e, List.getElem?_append_right (by simp; omega)]
    have e2 : 3 * (i + 1) + c - [Value.int .i64 q.f0, Value.int .i64 q.f1, Value.int .i64 q.f2].length = 3 * i + c := by simp; omega
    rw [e2, ih]
    simp
theorem encQ_set : ∀ (Q : List S25) (i : Nat) (q : S25), i < Q.length → (((encQ Q).set (3 * i) (.int .i64 q.f0)).set (3 * i + 1) (.int .i64 q.f1)).set (3 * i + 2) (.int .i64 q.f2) = encQ (Q.set i q)
  | [], i, q, h => by simp at h
  | a :: Q, 0, q, _ => by simp [encQ]
  | a :: Q, i + 1, q, h => by
    have ih := encQ_set Q i q (by simpa using h)
    have e : ∀ (b : S25) (R : List S25), encQ (b :: R) = .int .i64 b.f0 :: .int .i64 b.f1 :: .int .i64 b.f2 :: encQ R := by intro b R; simp [encQ]
    rw [List.set_cons_succ, e, e, ← ih]
    have e1 : 3 * (i + 1) = 3 * i + 1 + 1 + 1 := by omega
    rw [e1]
    simp only [List.set_cons_succ, show 3 * i + 1 + 1 + 1 + 1 = (3 * i + 1) + 1 + 1 + 1 by omega, show 3 * i + 1 + 1 + 1 + 2 = (3 * i + 2) + 1 + 1 + 1 by omega]
theorem encN_p {P : List Bool} {Q : List S25} {vT vC : Value} (i : Nat) (h : i < P.length) : (encN P Q vT vC)[i]? = some (.bool (P.getD i false)) := by
  unfold encN
  rw [List.getElem?_toArray, List.append_assoc, List.getElem?_append_left (by simpa using h)]
  simp [h]
theorem encN_q {P : List Bool} {Q : List S25} {vT vC : Value} (hp : P.length = 8) (i c : Nat) (h : i < Q.length) (hc : c < 3) : (encN P Q vT vC)[8 + (3 * i + c)]? = some (.int .i64 (if c = 0 then (Q.getD i ⟨0, 0, 0⟩).f0 else if c = 1 then (Q.getD i ⟨0, 0, 0⟩).f1 else (Q.getD i ⟨0, 0, 0⟩).f2)) := by
  have hl := encQ_len Q
  unfold encN
  rw [List.getElem?_toArray, List.append_assoc, List.getElem?_append_right (by simp; omega)]
  have e : 8 + (3 * i + c) - (P.map Value.bool).length = 3 * i + c := by simp; omega
  rw [e, List.getElem?_append_left (by omega)]
  exact encQ_get Q i c h hc
theorem encN_t {P : List Bool} {Q : List S25} {vT vC : Value} (hp : P.length = 8) (hq : Q.length = 8) : (encN P Q vT vC)[32]? = some vT := by
  have hl := encQ_len Q
  unfold encN
  rw [List.getElem?_toArray, List.getElem?_append_right (by simp; omega)]
  have e : 32 - (P.map Value.bool ++ encQ Q).length = 0 := by simp; omega
  rw [e]; rfl
theorem encN_c {P : List Bool} {Q : List S25} {vT vC : Value} (hp : P.length = 8) (hq : Q.length = 8) : (encN P Q vT vC)[33]? = some vC := by
  have hl := encQ_len Q
  unfold encN
  rw [List.getElem?_toArray, List.getElem?_append_right (by simp; omega)]
  have e : 33 - (P.map Value.bool ++ encQ Q).length = 1 := by simp; omega
  rw [e]; rfl
theorem encN_setP {P : List Bool} {Q : List S25} {vT vC : Value} (i : Nat) (h : i < P.length) (b : Bool) : (encN P Q vT vC).setIfInBounds i (.bool b) = encN (P.set i b) Q vT vC := by
  unfold encN
  rw [List.setIfInBounds_toArray, List.append_assoc, List.set_append_left _ _ (by simpa using h), List.map_set, ← List.append_assoc]
theorem encN_setQ {P : List Bool} {Q : List S25} {vT vC : Value} (hp : P.length = 8) (i : Nat) (h : i < Q.length) (q : S25) : (((encN P Q vT vC).setIfInBounds (8 + 3 * i) (.int .i64 q.f0)).setIfInBounds (8 + 3 * i + 1) (.int .i64 q.f1)).setIfInBounds (8 + 3 * i + 2) (.int .i64 q.f2) = encN P (Q.set i q) vT vC := by
  have hl := encQ_len Q
  unfold encN
  have key : ∀ (M : List Value) (d : Nat) (v : Value), d < M.length → (P.map Value.bool ++ M ++ [vT, vC]).set (8 + d) v = P.map Value.bool ++ M.set d v ++ [vT, vC] := by
    intro M d v hd
    rw [List.append_assoc, List.set_append_right _ _ (by simp; omega)]
    have e : 8 + d - (P.map Value.bool).length = d := by simp; omega
    rw [e, List.set_append_left _ _ hd, ← List.append_assoc]
  rw [List.setIfInBounds_toArray, List.setIfInBounds_toArray, List.setIfInBounds_toArray, key _ _ _ (by omega), Nat.add_assoc 8, key _ _ _ (by simp; omega), Nat.add_assoc 8, key _ _ _ (by simp; omega), encQ_set Q i q h]
theorem encN_setC {P : List Bool} {Q : List S25} {vT vC : Value} (hp : P.length = 8) (hq : Q.length = 8) (v : Value) : (encN P Q vT vC).setIfInBounds 33 v = encN P Q vT v := by
  have hl := encQ_len Q
  unfold encN
  rw [List.setIfInBounds_toArray, List.set_append_right _ _ (by simp; omega)]
  have e : 33 - (P.map Value.bool ++ encQ Q).length = 1 := by simp; omega
  rw [e]; rfl
/-- The network on its way: its own block g, the tree's marks at gT. -/
structure OnWay (w W : World) (g gT n : Nat) (P : List Bool) (Q : List S25) (T : List Bool) : Prop where
  pl : P.length = 8
  ql : Q.length = 8
  tl : T.length = n
  bg : W.heap[g]? = some (.cells (encN P Q (.slice (some ⟨gT, 0, none⟩) n n) (.slice none 0 0)) 68 (0, 0))
  bt : W.heap[gT]? = some (.cells (T.map Value.bool).toArray 4 (0, 0))
  be : Below w.heap.size w W
theorem netRow_val {k : Nat} : ∀ (l : List S28) (i : Nat) (P : List Bool) (Q : List S25) (T : List Bool) (a : Bool) (t : List Bool × List S25 × List Bool × Bool), netRow k l i P Q T a = some t → ∀ x ∈ l, 0 ≤ x.f0 ∧ x.f0 < 8 ∧ 0 ≤ x.f1 ∧ x.f1 < 8
  | [], _, _, _, _, _, _, _, x, hx => by simp at hx
  | y :: l, i, P, Q, T, a, t, h, x, hx => by
    obtain ⟨t1, h1, h2⟩ := Option.bind_eq_some_iff.mp h
    rcases List.mem_cons.mp hx with rfl | hx
    · unfold netStep at h1
      split at h1
      · assumption
      · cases h1
    · exact netRow_val l (i + 1) _ _ _ _ _ h2 x hx
theorem netRun_val {k m : Nat} {l : List S28} {P : List Bool} {Q : List S25} {T : List Bool} {t : List Bool × List S25 × List Bool} (h : netRun k l m P Q T = some t) : ∀ x ∈ l, 0 ≤ x.f0 ∧ x.f0 < 8 ∧ 0 ≤ x.f1 ∧ x.f1 < 8 := by
  cases m with
  | zero => cases h
  | succ m =>
    obtain ⟨t1, h1, _⟩ := Option.bind_eq_some_iff.mp h
    exact netRow_val l 0 _ _ _ _ _ h1
structure Clos (w W : World) (g gT n : Nat) (P : List Bool) (Q : List S25) (T : List Bool) (vC : Value) (C : List Int) : Prop where
  pl : P.length = 8
  ql : Q.length = 8
  tl : T.length = n
  bg : W.heap[g]? = some (.cells (encN P Q (.slice (some ⟨gT, 0, none⟩) n n) vC) 68 (0, 0))
  bt : W.heap[gT]? = some (.cells (T.map Value.bool).toArray 4 (0, 0))
  be : Below w.heap.size w W
  rc : Kd.R (Kd.int .i64) 3 W w.heap.size (fun k_ => k_ ≠ g) vC C
theorem Clos.step {w W W2 : World} {g gT n : Nat} {P : List Bool} {Q : List S25} {T : List Bool} {vC : Value} {C : List Int} (h : Clos w W g gT n P Q T vC C) (hb : Below W.heap.size W W2) : Clos w W2 g gT n P Q T vC C :=
  ⟨h.pl, h.ql, h.tl, blk_below h.bg hb, blk_below h.bt hb, below_step h.be hb, Kd.R_below h.rc hb⟩
theorem OnWay.step {w W W2 : World} {g gT n : Nat} {P : List Bool} {Q : List S25} {T : List Bool} (h : OnWay w W g gT n P Q T) (hb : Below W.heap.size W W2) : OnWay w W2 g gT n P Q T :=
  ⟨h.pl, h.ql, h.tl, blk_below h.bg hb, blk_below h.bt hb, below_step h.be hb⟩
theorem OnWay.cellQ {w W : World} {g gT n : Nat} {P : List Bool} {Q : List S25} {T : List Bool} (h : OnWay w W g gT n P Q T) (i : Nat) (hi : i < 8) : W.cell? ⟨g, 8 + i * 3, none⟩ = some (.int .i64 (Q.getD i ⟨0, 0, 0⟩).f0) ∧ W.cell? ⟨g, 8 + i * 3 + 1, none⟩ = some (.int .i64 (Q.getD i ⟨0, 0, 0⟩).f1) ∧ W.cell? ⟨g, 8 + i * 3 + 2, none⟩ = some (.int .i64 (Q.getD i ⟨0, 0, 0⟩).f2) := by
  have q8 := h.ql
  have e0 := (blk_cell h.bg (8 + (3 * i + 0))).trans (encN_q h.pl i 0 (by omega) (by omega))
  have e1 := (blk_cell h.bg (8 + (3 * i + 1))).trans (encN_q h.pl i 1 (by omega) (by omega))
  have e2 := (blk_cell h.bg (8 + (3 * i + 2))).trans (encN_q h.pl i 2 (by omega) (by omega))
  rw [show 8 + (3 * i + 0) = 8 + i * 3 by omega] at e0
  rw [show 8 + (3 * i + 1) = 8 + i * 3 + 1 by omega] at e1
  rw [show 8 + (3 * i + 2) = 8 + i * 3 + 2 by omega] at e2
  exact ⟨e0, e1, e2⟩
theorem OnWay.setQ {w W : World} {g gT n : Nat} {P : List Bool} {Q : List S25} {T : List Bool} (h : OnWay w W g gT n P Q T) (hg : w.heap.size ≤ g) (hne : gT ≠ g) (i : Nat) (hi : i < 8) (q : S25) : OnWay w (((W.setCell ⟨g, 8 + i * 3, none⟩ (.int .i64 q.f0)).setCell ⟨g, 8 + i * 3 + 1, none⟩ (.int .i64 q.f1)).setCell ⟨g, 8 + i * 3 + 2, none⟩ (.int .i64 q.f2)) g gT n P (Q.set i q) T := by
  have q8 := h.ql
  refine ⟨h.pl, by simpa using q8, h.tl, ?_, blk_far (blk_far (blk_far h.bt hne _) hne _) hne _, below_set (below_set (below_set h.be hg) hg) hg⟩
  have e := encN_setQ (P := P) (Q := Q) (vT := .slice (some ⟨gT, 0, none⟩) n n) (vC := .slice none 0 0) h.pl i (by omega) q
  rw [← e, show 8 + 3 * i = 8 + i * 3 by omega]
  exact blk_set (blk_set (blk_set h.bg _ _) _ _) _ _
theorem OnWay.setP {w W : World} {g gT n : Nat} {P : List Bool} {Q : List S25} {T : List Bool} (h : OnWay w W g gT n P Q T) (hg : w.heap.size ≤ g) (hne : gT ≠ g) (i : Nat) (hi : i < 8) : OnWay w (W.setCell ⟨g, i, none⟩ (.bool true)) g gT n (P.set i true) Q T := by
  have p8 := h.pl
  refine ⟨by simpa using p8, h.ql, h.tl, ?_, blk_far h.bt hne _, below_set h.be hg⟩
  rw [← encN_setP (P := P) (Q := Q) (vT := .slice (some ⟨gT, 0, none⟩) n n) (vC := .slice none 0 0) i (by omega) true]
  exact blk_set h.bg _ _
theorem OnWay.setT {w W : World} {g gT n : Nat} {P : List Bool} {Q : List S25} {T : List Bool} (h : OnWay w W g gT n P Q T) (hg : w.heap.size ≤ gT) (hne : gT ≠ g) (i : Nat) : OnWay w (W.setCell ⟨gT, i, none⟩ (.bool true)) g gT n P Q (T.set i true) := by
  have t8 := h.tl
  refine ⟨h.pl, h.ql, by simpa using t8, blk_far h.bg (Ne.symm hne) _, ?_, below_set h.be hg⟩
  have e : ((T.map Value.bool).toArray).setIfInBounds i (.bool true) = ((T.set i true).map Value.bool).toArray := by rw [List.setIfInBounds_toArray, List.map_set]
  rw [← e]
  exact blk_set h.bt _ _
theorem getD_set_ne {α : Type} (l : List α) (i j : Nat) (x d : α) (h : i ≠ j) : (l.set i x).getD j d = l.getD j d := by
  rw [List.getD_eq_getElem?_getD, List.getElem?_set_ne h, ← List.getD_eq_getElem?_getD]
theorem bcell_ {W w1 : World} (hb : Below W.heap.size W w1) : (∀ b o, b < W.heap.size → w1.cell? ⟨b, o, none⟩ = W.cell? ⟨b, o, none⟩) ∧ (∀ b o, b < W.heap.size → w1.frozen? ⟨b, o, none⟩ = W.frozen? ⟨b, o, none⟩) :=
  ⟨fun b o h => hb.cell (p := ⟨b, o, none⟩) h, fun b o h => hb.frozen (p := ⟨b, o, none⟩) h⟩
set_option maxHeartbeats 8000000 in
set_option maxRecDepth 100000 in
theorem impl_place.calls (k : Nat) (A0 : Option Addr) (c0 : Nat) (l0 : List S28) (P : List Bool) (Q : List S25) (T : List Bool) (C : List Int) (w : World) (hT : Tab w) (hr0 : Kd.C k28 w A0 l0.length l0) (hc0 : l0.length ≤ c0) (h : impl_place.f k l0 = some (P, Q, T, C)) :
    Calls Tryd.prog 52 #[.slice A0 l0.length c0] w fun e w' => ∃ g, e = .returned (.pointer (some ⟨g, 0, none⟩)) ∧ IsNet w w' g P Q T C ∧ Below w.heap.size w w' := by
  unfold impl_place.f at h
  split at h
  case isFalse => cases h
  rename_i hlen
  have HLen := Aside0.mk hlen
  have HT := Aside0.mk hT
  have HR0 := Aside0.mk hr0
  have HC0 := Aside0.mk hc0
  obtain ⟨⟨Pf, Qf, Tf⟩, hrun, hcl⟩ := Option.bind_eq_some_iff.mp h
  simp only [Option.some.injEq, Prod.mk.injEq] at hcl
  obtain ⟨rfl, rfl, rfl, rfl⟩ := hcl
  have HRun := Aside0.mk hrun
  have HVal := Aside0.mk (netRun_val hrun)
  clear h hT hr0 hc0 hlen hrun
  have HB := Aside0.mk (Below.refl w.heap.size w)
  have hMake := print_make_of (P := Tryd.prog) 66 4 (.bool false) 1 Tryd.underlying66 info4 rfl (by decide) l0.length (by have := HLen.out; omega)
  go_enter Tryd.func52, Tryd.ntmps52
  go_wp2
  clear hMake
  go_loopg [4] k (fun kq v4 w' => ∃ (b : Bool) (P' : List Bool) (Q' : List S25) (T' : List Bool), v4 = .bool b ∧ Aside0 ((b = true ∧ netRun k l0 kq P' Q' T' = some (Pf, Qf, Tf)) ∨ (b = false ∧ P' = Pf ∧ Q' = Qf ∧ T' = Tf)) ∧ Aside0 (OnWay w w' (w.heap.size + 1) w.heap.size l0.length P' Q' T'))
  case atStart =>
    refine ⟨true, _, _, _, rfl, ⟨.inl ⟨rfl, HRun.out⟩⟩, ⟨⟨rfl, by simp, by simp, ?_, ?_, ?_⟩⟩⟩
    · have e := blk_new (w.alloc (.cells (madeCells #[Value.bool false] l0.length) 4)) (.cells (encN [true, false, false, false, false, false, false, false] (List.replicate 8 ⟨0, 0, 0⟩) (.slice (some ⟨w.heap.size, 0, none⟩) l0.length l0.length) (.slice none 0 0)) 68)
      have e2 : (w.alloc (.cells (madeCells #[Value.bool false] l0.length) 4)).heap.size = w.heap.size + 1 := by simp
      rw [e2] at e
      exact e
    · have e : madeCells #[Value.bool false] l0.length = ((List.replicate l0.length false).map Value.bool).toArray := by
        apply Array.ext'
        apply List.ext_getElem
        · simp [madeCells]
        · intro i h1 h2
          simp [madeCells, Nat.mod_one]
      rw [← e]
      exact blk_alloc (blk_new w _) _
    · exact below_alloc (below_alloc (Below.refl _ _) _) _
  case round =>
    obtain ⟨b, P', Q', T', rfl, HN, HO⟩ := hrel
    cases b with
    | false =>
      obtain ⟨rfl, rfl, rfl⟩ : P' = Pf ∧ Q' = Qf ∧ T' = Tf := by
        rcases HN.out with ⟨h, _⟩ | ⟨_, h⟩
        · cases h
        · exact h
      clear HN HRun HB
      go_wp2
      go_loopg [101] l0.length (fun kq v101 w' => ∃ (j : Nat) (vC : Value) (acc : List Int), v101 = .int .i64 j ∧ Aside0 (kq + j = l0.length) ∧ Aside0 (acc.length ≤ j) ∧ Aside0 (acc ++ netClosing P' T' (l0.drop j) j = netClosing P' T' l0 0) ∧ Aside0 (Clos w w' (w.heap.size + 1) w.heap.size l0.length P' Q' T' vC acc))
      case atStart => exact ⟨0, _, [], rfl, ⟨rfl⟩, ⟨Nat.le_refl _⟩, ⟨rfl⟩, ⟨HO.out.pl, HO.out.ql, HO.out.tl, HO.out.bg, HO.out.bt, HO.out.be, Kd.R_nil _ _ _ _ _⟩⟩
      case round =>
        clear HO
        obtain ⟨j, vC, acc, rfl, HJ, HA, HE, HO⟩ := hrel
        cases gk with
        | zero =>
          have c1 : ¬ j < l0.length := by have := HJ.out; omega
          have c1n : decide (j < l0.length) = false := decide_eq_false c1
          have c1b : decide ((j : Int) < (l0.length : Int)) = false := decide_eq_false (by omega)
          have H := HE.out
          rw [List.drop_of_length_le (by omega)] at H
          simp only [netClosing, List.append_nil] at H
          have HE2 := Aside0.mk H
          clear c1 H HE
          go_wp2
          go_ret
          refine ⟨w.heap.size + 1, rfl, ⟨HO.out.pl, HO.out.ql, by omega, by have := HO.out.tl; have := HLen.out; omega, w.heap.size, vC, ?_, HO.out.bt, by rw [← HE2.out]; exact HO.out.rc⟩, HO.out.be⟩
          rw [HO.out.tl]
          exact HO.out.bg
        | succ q =>
          have c1 : j < l0.length := by have := HJ.out; omega
          have c1n : decide (j < l0.length) = true := decide_eq_true c1
          have c1b : decide ((j : Int) < (l0.length : Int)) = true := decide_eq_true (by omega)
          obtain ⟨ad, e1, hx0, hx1, hx2, hx3, hx4⟩ := at_T28 HR0.out (j : Int) (by omega) (by omega)
          cases e1
          simp only [Int.toNat_natCast] at hx0 hx1 hx2 hx3 hx4
          have hd := rd_T28_drop l0 j c1
          generalize rd_T28 l0 (j : Int) = x at hx0 hx1 hx2 hx3 hx4 hd
          replace hx0 := (HO.out.be.cell (World.block_lt_of_cell? w _ hx0)).trans hx0
          replace hx1 := (HO.out.be.cell (World.block_lt_of_cell? w _ hx1)).trans hx1
          replace hx2 := (HO.out.be.cell (World.block_lt_of_cell? w _ hx2)).trans hx2
          replace hx3 := (HO.out.be.cell (World.block_lt_of_cell? w _ hx3)).trans hx3
          replace hx4 := (HO.out.be.cell (World.block_lt_of_cell? w _ hx4)).trans hx4
          have HV := HVal.out x (by have : x ∈ l0.drop j := by rw [hd]; exact List.mem_cons_self
                                    exact List.mem_of_mem_drop this)
          have H := HE.out
          rw [hd] at H
          simp only [netClosing] at H
          have hbg := HO.out.bg
          have hp0 : wr.cell? ⟨w.heap.size + 1, x.f0.toNat, none⟩ = some (.bool (P'.getD x.f0.toNat false)) := (blk_cell hbg _).trans (encN_p _ (by have := HO.out.pl; omega))
          have hlt := blk_lt hbg
          have hne : w.heap.size + 1 ≠ wr.heap.size := by omega
          have hne2 : w.heap.size ≠ wr.heap.size := by omega
          have CJ := Aside0.mk c1
          go_wp2
          go_upto_region 21 with (fail)
          have HX : Aside0 ((wr.alloc (.cells #[.int .i64 x.f0, .int .i64 x.f1, .int .i64 x.f2, .int .i64 x.f3, .int .i64 x.f4] 28)).heap[wr.heap.size]? = some (.cells #[.int .i64 x.f0, .int .i64 x.f1, .int .i64 x.f2, .int .i64 x.f3, .int .i64 x.f4] 28 (0, 0))) := ⟨blk_new wr _⟩
          have HO1 : Aside0 (Clos w (wr.alloc (.cells #[.int .i64 x.f0, .int .i64 x.f1, .int .i64 x.f2, .int .i64 x.f3, .int .i64 x.f4] 28)) (w.heap.size + 1) w.heap.size l0.length P' Q' T' vC acc) := ⟨HO.out.step (below_alloc (Below.refl _ _) _)⟩
          clear hx0 hx1 hx2 hx3 hx4 hp0 c1n c1b HO hne hne2 hlt hbg hd
          generalize (wr.alloc (.cells #[.int .i64 x.f0, .int .i64 x.f1, .int .i64 x.f2, .int .i64 x.f3, .int .i64 x.f4] 28)) = W1 at HX HO1 ⊢
          generalize wr.heap.size = gx at HX ⊢
          have bx0 := blk_cell HX.out 0
          have hp0 : W1.cell? ⟨w.heap.size + 1, x.f0.toNat, none⟩ = some (.bool (P'.getD x.f0.toNat false)) := (blk_cell HO1.out.bg _).trans (encN_p _ (by have := HO1.out.pl; have := HV.1; have := HV.2.1; omega))
          have tc := (blk_cell HO1.out.bg 32).trans (encN_t HO1.out.pl HO1.out.ql)
          have tj : W1.cell? ⟨w.heap.size, j, none⟩ = some (.bool (T'.getD j false)) := (blk_cell HO1.out.bt j).trans (by have := HO1.out.tl; simp [show j < T'.length by omega])
          generalize P'.getD x.f0.toNat false = m0 at hp0 H
          generalize T'.getD j false = t0 at tj H
          have hv0 := HV.1
          have hv1 := HV.2.1
          clear HV
          have ci : (j : Int) < (l0.length : Int) := by omega
          have ci0 : (0 : Int) ≤ (j : Int) := by omega
          cases m0 with
          | false =>
            rw [if_neg (fun h => by cases h.1)] at H
            have HE2 := Aside0.mk H
            clear H
            go_quiet (fail)
            go_wp2
            go_roundg q
            case measure => omega
            case rel => exact ⟨j + 1, vC, acc, congrArg (Value.int .i64) (by have := CJ.out; have := HLen.out; first | rfl | (unfold wrap64; omega) | omega), ⟨by have := HJ.out; omega⟩, ⟨by have := HA.out; omega⟩, HE2, ⟨HO1.out.step (pw_below_drewN (Below.refl _ _) _)⟩⟩
          | true =>
            cases t0 with
            | true =>
              rw [if_neg (fun h => by cases h.2)] at H
              have HE2 := Aside0.mk H
              clear H
              go_quiet (fail)
              go_wp2
              go_roundg q
              case measure => omega
              case rel => exact ⟨j + 1, vC, acc, congrArg (Value.int .i64) (by have := CJ.out; have := HLen.out; first | rfl | (unfold wrap64; omega) | omega), ⟨by have := HJ.out; omega⟩, ⟨by have := HA.out; omega⟩, HE2, ⟨HO1.out.step (pw_below_drewN (Below.refl _ _) _)⟩⟩
            | false =>
              rw [if_pos ⟨rfl, rfl⟩] at H
              have HE2 : Aside0 ((acc ++ [(j : Int)]) ++ netClosing P' T' (l0.drop (j + 1)) (j + 1) = netClosing P' T' l0 0) := ⟨by rw [List.append_assoc]; exact H⟩
              clear H
              go_quiet (fail)
              revert nq
              intro n1
              go_upto_region 22 with (fail)
              have HO2 : Aside0 (Clos w (W1.drewN n1) (w.heap.size + 1) w.heap.size l0.length P' Q' T' vC acc) := ⟨HO1.out.step (pw_below_drewN (Below.refl _ _) _)⟩
              clear hp0 bx0 HX tc tj hv0 hv1 HO1
              generalize (W1.drewN n1) = W2 at HO2 ⊢
              have vc := (blk_cell HO2.out.bg 33).trans (encN_c HO2.out.pl HO2.out.ql)
              have hlt := blk_lt HO2.out.bg
              have hne : w.heap.size + 1 ≠ W2.heap.size := by omega
              have HTV : Aside0 (some w.heap.size ≠ vC.ownBlock) := ⟨Kd.R_ne HO2.out.rc HO2.out.bt (by decide)⟩
              go_wp2_with (first
                | ((with_reducible refine gate_builtin (b := .append) (xs := #[.tmp 127, .tmp 129]) rfl ?_); at_builtin; refine Kd.R_append (Kd.int .i64) (w0 := w) w.heap.size rfl (.tmp 127) (.tmp 129) 45 3 (.int .i64 0) 8 rfl Tryd.underlying45 info3 rfl (by decide) (by omega) vC acc (j : Int) [.int .i64 (j : Int)] (fun k_ => k_ ≠ w.heap.size + 1) (fun _ => False) rfl rfl ?aP (fun _ hk => hk.elim) ?aF HO2.out.rc HO2.out.be (below_size HO2.out.be) ?aL ?_; (case aP => rfl); (case aF => exact (fun k_ hk => by have := hne; have := hlt; omega)); (case aL => have := HA.out; have := CJ.out; have := HLen.out; omega); intro v1 w3 ho hb hg hat; obtain ⟨Av, cv, rfl⟩ := Kd.R_slice ho; have HO3 := Aside0.mk ho; have HB3 := Aside0.mk hb; have BG3 := Aside0.mk (blk_grown HO2.out.bg hg (fun e => HO2.out.rc.1 _ e.symm rfl)); have BT3 := Aside0.mk (blk_grown HO2.out.bt hg HTV.out); have cz := (blk_cell BG3.out 33).trans (encN_c HO2.out.pl HO2.out.ql); have fz := blk_frozen BG3.out 33; clear ho hb hg hat vc))
              go_roundg q
              case measure => omega
              case rel =>
                have e : (acc ++ [(j : Int)]).length = acc.length + 1 := by simp
                have ho := HO3.out
                rw [e] at ho
                exact ⟨j + 1, .slice Av (acc.length + 1) cv, acc ++ [(j : Int)], congrArg (Value.int .i64) (by have := CJ.out; have := HLen.out; first | rfl | (unfold wrap64; omega) | omega), ⟨by have := HJ.out; omega⟩, ⟨by have := HA.out; omega⟩, HE2, ⟨(show Clos w (w3.setCell ⟨w.heap.size + 1, 33, none⟩ (.slice Av (acc.length + 1) cv)) (w.heap.size + 1) w.heap.size l0.length P' Q' T' (.slice Av (acc.length + 1) cv) (acc ++ [(j : Int)]) from ⟨HO2.out.pl, HO2.out.ql, HO2.out.tl, blk_put BG3.out 33 _ (encN_setC HO2.out.pl HO2.out.ql _), blk_far BT3.out (by simp) _, below_set HB3.out (by omega), Kd.R_far (p := ⟨w.heap.size + 1, 33, none⟩) ho (fun _ hk => hk) _⟩)⟩⟩
    | true =>
      cases gk with
      | zero => rcases HN.out with ⟨_, h⟩ | ⟨h, _⟩ <;> simp [netRun] at h
      | succ m =>
        obtain ⟨⟨P1, Q1, T1, b1⟩, hrow, hrest⟩ : ∃ t, netRow k l0 0 P' Q' T' false = some t ∧ (if t.2.2.2 = true then netRun k l0 m t.1 t.2.1 t.2.2.1 else some (t.1, t.2.1, t.2.2.1)) = some (Pf, Qf, Tf) := by
          rcases HN.out with ⟨_, h⟩ | ⟨h, _⟩
          · exact Option.bind_eq_some_iff.mp h
          · cases h
        have HRow := Aside0.mk hrow
        have HRest := Aside0.mk hrest
        clear hrow hrest HN
        go_wp2
        go_loopg [4, 21] l0.length (fun kq v4 v21 w' => ∃ (j : Nat) (b : Bool) (P2 : List Bool) (Q2 : List S25) (T2 : List Bool), v21 = .int .i64 j ∧ v4 = .bool b ∧ Aside0 (kq + j = l0.length) ∧ Aside0 (netRow k (l0.drop j) j P2 Q2 T2 b = some (P1, Q1, T1, b1)) ∧ Aside0 (OnWay w w' (w.heap.size + 1) w.heap.size l0.length P2 Q2 T2))
        case atStart => exact ⟨0, false, P', Q', T', rfl, rfl, ⟨rfl⟩, HRow, HO⟩
        case round =>
          clear HRow HO HB
          obtain ⟨j, b, P2, Q2, T2, rfl, rfl, HJ, HRow, HO⟩ := hrel
          cases gk with
          | zero =>
            have c1 : ¬ j < l0.length := by have := HJ.out; omega
            have c1n : decide (j < l0.length) = false := decide_eq_false c1
            have c1b : decide ((j : Int) < (l0.length : Int)) = false := decide_eq_false (by omega)
            have H := HRow.out
            rw [List.drop_of_length_le (by omega)] at H
            simp only [netRow, Option.some.injEq, Prod.mk.injEq] at H
            obtain ⟨rfl, rfl, rfl, rfl⟩ := H
            clear c1
            go_wp2
            go_roundg m
            case measure => omega
            case rel =>
              cases b with
              | true => exact ⟨true, P2, Q2, T2, rfl, ⟨.inl ⟨rfl, by simpa using HRest.out⟩⟩, HO⟩
              | false => exact ⟨false, P2, Q2, T2, rfl, ⟨.inr ⟨rfl, by simpa using HRest.out⟩⟩, HO⟩
          | succ q =>
            have c1 : j < l0.length := by have := HJ.out; omega
            have c1n : decide (j < l0.length) = true := decide_eq_true c1
            have c1b : decide ((j : Int) < (l0.length : Int)) = true := decide_eq_true (by omega)
            obtain ⟨ad, e1, hx0, hx1, hx2, hx3, hx4⟩ := at_T28 HR0.out (j : Int) (by omega) (by omega)
            cases e1
            simp only [Int.toNat_natCast] at hx0 hx1 hx2 hx3 hx4
            have hd := rd_T28_drop l0 j c1
            generalize rd_T28 l0 (j : Int) = x at hx0 hx1 hx2 hx3 hx4 hd
            replace hx0 := (HO.out.be.cell (World.block_lt_of_cell? w _ hx0)).trans hx0
            replace hx1 := (HO.out.be.cell (World.block_lt_of_cell? w _ hx1)).trans hx1
            replace hx2 := (HO.out.be.cell (World.block_lt_of_cell? w _ hx2)).trans hx2
            replace hx3 := (HO.out.be.cell (World.block_lt_of_cell? w _ hx3)).trans hx3
            replace hx4 := (HO.out.be.cell (World.block_lt_of_cell? w _ hx4)).trans hx4
            obtain ⟨⟨P3, Q3, T3, b3⟩, hst, hrow⟩ : ∃ t, netStep k x j P2 Q2 T2 b = some t ∧ netRow k (l0.drop (j + 1)) (j + 1) t.1 t.2.1 t.2.2.1 t.2.2.2 = some (P1, Q1, T1, b1) := by
              have h := HRow.out
              rw [hd] at h
              exact Option.bind_eq_some_iff.mp h
            have HRow2 := Aside0.mk hrow
            have CJ := Aside0.mk c1
            have HD := Aside0.mk hd
            clear hrow HRow hd
            unfold netStep at hst
            split at hst
            case isFalse => cases hst
            rename_i hb
            obtain ⟨hb0, hb1, hb2, hb3⟩ := hb
            have hbg := HO.out.bg
            have hp0 : wr.cell? ⟨w.heap.size + 1, x.f0.toNat, none⟩ = some (.bool (P2.getD x.f0.toNat false)) := (blk_cell hbg _).trans (encN_p _ (by have := HO.out.pl; omega))
            have hp1 : wr.cell? ⟨w.heap.size + 1, x.f1.toNat, none⟩ = some (.bool (P2.getD x.f1.toNat false)) := (blk_cell hbg _).trans (encN_p _ (by have := HO.out.pl; omega))
            have hlt := blk_lt hbg
            have hne : w.heap.size + 1 ≠ wr.heap.size := by omega
            have hne2 : w.heap.size ≠ wr.heap.size := by omega
            have HST := Aside0.mk hst
            clear hst hbg
            generalize hm0 : P2.getD x.f0.toNat false = m0 at hp0
            generalize hm1 : P2.getD x.f1.toNat false = m1 at hp1
            have HM0 := Aside0.mk hm0
            have HM1 := Aside0.mk hm1
            clear hm0 hm1
            by_cases ce : m0 = m1
            · subst ce
              go_wp2
              go_quiet (fail)
              go_wp2
              go_roundg q
              case measure => omega
              case rel =>
                have h := HST.out
                rw [if_pos (HM0.out.trans HM1.out.symm)] at h
                simp only [Option.some.injEq, Prod.mk.injEq] at h
                obtain ⟨rfl, rfl, rfl, rfl⟩ := h
                exact ⟨j + 1, b, P2, Q2, T2, congrArg (Value.int .i64) (by have := CJ.out; have := HLen.out; first | rfl | (unfold wrap64; omega) | omega), rfl, ⟨by have := HJ.out; omega⟩, HRow2, ⟨HO.out.step (pw_below_drewN (below_alloc (Below.refl _ _) _) _)⟩⟩
            · have ceb : (m0 == m1) = false := by cases m0 <;> cases m1 <;> first | rfl | exact absurd rfl ce
              have hst := HST.out
              rw [if_neg (fun h => ce (HM0.out.symm.trans (h.trans HM1.out)))] at hst
              have hq8 := HO.out.ql
              have hp8 := HO.out.pl
              have hbg := HO.out.bg
              cases m0 with
              | true =>
                rw [if_pos HM0.out] at hst
                obtain ⟨⟨s1, s2, s3⟩, hs, hst⟩ := Option.bind_eq_some_iff.mp hst
                obtain ⟨⟨q1, q2, q3⟩, hq, hst⟩ := Option.bind_eq_some_iff.mp hst
                simp only [Option.some.injEq, Prod.mk.injEq] at hst
                obtain ⟨rfl, rfl, rfl, rfl⟩ := hst
                have HS := Aside0.mk hs
                have HQ := Aside0.mk hq
                clear hs hq hbg hq8 hp8
                clear HST
                go_wp2
                go_quiet (fail)
                revert nq
                intro n1
                go_wp2
                go_quiet (fail)
                revert nq
                intro n2
                go_upto_region 11 with (fail)
                clear hx0 hx1 hx2 hx3 hx4 hp0 hp1 c1n c1b ceb
                have HX : Aside0 ((((wr.alloc (.cells #[.int .i64 x.f0, .int .i64 x.f1, .int .i64 x.f2, .int .i64 x.f3, .int .i64 x.f4] 28)).drewN n1).drewN n2).heap[wr.heap.size]? = some (.cells #[.int .i64 x.f0, .int .i64 x.f1, .int .i64 x.f2, .int .i64 x.f3, .int .i64 x.f4] 28 (0, 0))) := ⟨blk_drewN (blk_drewN (blk_new wr _) _) _⟩
                have HO1 : Aside0 (OnWay w (((wr.alloc (.cells #[.int .i64 x.f0, .int .i64 x.f1, .int .i64 x.f2, .int .i64 x.f3, .int .i64 x.f4] 28)).drewN n1).drewN n2) (w.heap.size + 1) w.heap.size l0.length P2 Q2 T2) := ⟨HO.out.step (pw_below_drewN (pw_below_drewN (below_alloc (Below.refl _ _) _) _) _)⟩
                have HLT : Aside0 (w.heap.size + 1 < wr.heap.size) := ⟨hlt⟩
                have hnn : x.f1.toNat ≠ x.f0.toNat := fun e => ce (by rw [← HM0.out, ← HM1.out, e])
                clear HO hlt hne hne2
                generalize (((wr.alloc (.cells #[.int .i64 x.f0, .int .i64 x.f1, .int .i64 x.f2, .int .i64 x.f3, .int .i64 x.f4] 28)).drewN n1).drewN n2) = W1 at HX HO1 ⊢
                generalize wr.heap.size = gx at HX HLT ⊢
                have bx0 := blk_cell HX.out 0
                have bx1 := blk_cell HX.out 1
                have bx2 := blk_cell HX.out 2
                have bx3 := blk_cell HX.out 3
                have bx4 := blk_cell HX.out 4
                have hlx := blk_lt HX.out
                have hlg := blk_lt HO1.out.bg
                have hneg : w.heap.size + 1 ≠ gx := by have := HLT.out; omega
                have HQC : Aside0 (∀ W, OnWay w W (w.heap.size + 1) w.heap.size l0.length P2 Q2 T2 → W.cell? ⟨w.heap.size + 1, 8 + x.f0.toNat * 3, none⟩ = some (.int .i64 (Q2.getD x.f0.toNat ⟨0, 0, 0⟩).f0) ∧ W.cell? ⟨w.heap.size + 1, 8 + x.f0.toNat * 3 + 1, none⟩ = some (.int .i64 (Q2.getD x.f0.toNat ⟨0, 0, 0⟩).f1) ∧ W.cell? ⟨w.heap.size + 1, 8 + x.f0.toNat * 3 + 2, none⟩ = some (.int .i64 (Q2.getD x.f0.toNat ⟨0, 0, 0⟩).f2)) := ⟨fun W h => h.cellQ x.f0.toNat (by omega)⟩
                obtain ⟨hc0, hc1, hc2⟩ := HQC.out _ HO1.out
                have HQD : Aside0 (∀ q, (Q2.set x.f1.toNat q).getD x.f0.toNat ⟨0, 0, 0⟩ = Q2.getD x.f0.toNat ⟨0, 0, 0⟩) := ⟨fun q => getD_set_ne _ _ _ _ _ hnn⟩
                clear hnn ce
                generalize Q2.getD x.f0.toNat ⟨0, 0, 0⟩ = qq at hc0 hc1 hc2 HQ HQC HQD
                have hneg2 : w.heap.size ≠ w.heap.size + 1 := by omega
                go_region_held3 (fun w' => w'.cell? ⟨gx, 0, none⟩ = some (.int .i64 x.f0) ∧ w'.cell? ⟨gx, 1, none⟩ = some (.int .i64 x.f1) ∧ w'.cell? ⟨gx, 2, none⟩ = some (.int .i64 x.f2) ∧ w'.cell? ⟨gx, 3, none⟩ = some (.int .i64 x.f3) ∧ w'.cell? ⟨gx, 4, none⟩ = some (.int .i64 x.f4) ∧ w'.cell? ⟨w.heap.size + 1, 8 + x.f0.toNat * 3, none⟩ = some (.int .i64 qq.f0) ∧ w'.cell? ⟨w.heap.size + 1, 8 + x.f0.toNat * 3 + 1, none⟩ = some (.int .i64 qq.f1) ∧ w'.cell? ⟨w.heap.size + 1, 8 + x.f0.toNat * 3 + 2, none⟩ = some (.int .i64 qq.f2)) (first | (have h4_ := HO3.out.setQ (by omega) hneg2 x.f1.toNat (by omega) ⟨q1, q2, q3⟩; have hx4_ := blk_far (p := ⟨w.heap.size + 1, 8 + x.f1.toNat * 3 + 2, none⟩) (blk_far (p := ⟨w.heap.size + 1, 8 + x.f1.toNat * 3 + 1, none⟩) (blk_far (p := ⟨w.heap.size + 1, 8 + x.f1.toNat * 3, none⟩) HX3.out (Ne.symm hneg) (.int .i64 q1)) (Ne.symm hneg) (.int .i64 q2)) (Ne.symm hneg) (.int .i64 q3); obtain ⟨d0_, d1_, d2_⟩ := h4_.cellQ x.f0.toNat (by omega); rw [HQD.out] at d0_ d1_ d2_; exact ⟨blk_cell hx4_ 0, blk_cell hx4_ 1, blk_cell hx4_ 2, blk_cell hx4_ 3, blk_cell hx4_ 4, d0_, d1_, d2_⟩) | exact ⟨blk_cell HX3.out 0, blk_cell HX3.out 1, blk_cell HX3.out 2, blk_cell HX3.out 3, blk_cell HX3.out 4, (HQC.out _ HO3.out).1, (HQC.out _ HO3.out).2.1, (HQC.out _ HO3.out).2.2⟩ | exact ⟨blk_cell HX2.out 0, blk_cell HX2.out 1, blk_cell HX2.out 2, blk_cell HX2.out 3, blk_cell HX2.out 4, (HQC.out _ HO2.out).1, (HQC.out _ HO2.out).2.1, (HQC.out _ HO2.out).2.2⟩ | go_keep) ((first
                  | (go_at_call 45; refine (impl_Leg_shift.calls k x.f0 x.f1 x.f2 x.f3 x.f4 s1 s2 s3 _ (Tab.below HT.out (by repeat (first | exact HO1.out.be | apply below_drew1 | apply pw_below_drewN))) HS.out).mono ?_; rintro e w2 ⟨rfl, hb⟩; have HO2 := Aside0.mk ((HO1.out.step (below_drew1 (Below.refl _ _))).step hb); have HX2 := Aside0.mk (blk_below (blk_drew HX.out) hb); have hlx2 := blk_lt HX2.out; have hlg2 := blk_lt HO2.out.bg; clear hb)
                  | (go_at_call 49; refine (impl_Shift_plus.calls qq.f0 qq.f1 qq.f2 s1 s2 s3 1 q1 q2 q3 _ HQ.out).mono ?_; rintro e w3 ⟨rfl, hb⟩; have HO3 := Aside0.mk (HO2.out.step hb); have HX3 := Aside0.mk (blk_below HX2.out hb); have hlx3 := blk_lt HX3.out; obtain ⟨sc0, sc1, sc2⟩ := HO3.out.cellQ x.f1.toNat (by omega); have fz0 := blk_frozen HO3.out.bg (8 + x.f1.toNat * 3); have fz1 := blk_frozen HO3.out.bg (8 + x.f1.toNat * 3 + 1); have fz2 := blk_frozen HO3.out.bg (8 + x.f1.toNat * 3 + 2); clear hb)
                  | fail))
                have HO4 : Aside0 (OnWay w (((w3.setCell ⟨w.heap.size + 1, 8 + x.f1.toNat * 3, none⟩ (.int .i64 q1)).setCell ⟨w.heap.size + 1, 8 + x.f1.toNat * 3 + 1, none⟩ (.int .i64 q2)).setCell ⟨w.heap.size + 1, 8 + x.f1.toNat * 3 + 2, none⟩ (.int .i64 q3)) (w.heap.size + 1) w.heap.size l0.length P2 (Q2.set x.f1.toNat ⟨q1, q2, q3⟩) T2) := ⟨HO3.out.setQ (by omega) hneg2 x.f1.toNat (by omega) ⟨q1, q2, q3⟩⟩
                have HX4 : Aside0 ((((w3.setCell ⟨w.heap.size + 1, 8 + x.f1.toNat * 3, none⟩ (.int .i64 q1)).setCell ⟨w.heap.size + 1, 8 + x.f1.toNat * 3 + 1, none⟩ (.int .i64 q2)).setCell ⟨w.heap.size + 1, 8 + x.f1.toNat * 3 + 2, none⟩ (.int .i64 q3)).heap[gx]? = some (.cells #[.int .i64 x.f0, .int .i64 x.f1, .int .i64 x.f2, .int .i64 x.f3, .int .i64 x.f4] 28 (0, 0))) := ⟨blk_far (p := ⟨w.heap.size + 1, 8 + x.f1.toNat * 3 + 2, none⟩) (blk_far (p := ⟨w.heap.size + 1, 8 + x.f1.toNat * 3 + 1, none⟩) (blk_far (p := ⟨w.heap.size + 1, 8 + x.f1.toNat * 3, none⟩) HX3.out (Ne.symm hneg) (.int .i64 q1)) (Ne.symm hneg) (.int .i64 q2)) (Ne.symm hneg) (.int .i64 q3)⟩
                clear bx0 bx1 bx2 bx3 bx4 hc0 hc1 hc2 hlx hlg hlx2 hlg2 hlx3 sc0 sc1 sc2 fz0 fz1 fz2 HO1 HO2 HO3 HX HX2 HX3 HQC HQD
                generalize (((w3.setCell ⟨w.heap.size + 1, 8 + x.f1.toNat * 3, none⟩ (.int .i64 q1)).setCell ⟨w.heap.size + 1, 8 + x.f1.toNat * 3 + 1, none⟩ (.int .i64 q2)).setCell ⟨w.heap.size + 1, 8 + x.f1.toNat * 3 + 2, none⟩ (.int .i64 q3)) = W4 at HO4 HX4 ⊢
                have bx0 := blk_cell HX4.out 0
                have bx1 := blk_cell HX4.out 1
                have pc1 : W4.cell? ⟨w.heap.size + 1, x.f1.toNat, none⟩ = some (.bool (P2.getD x.f1.toNat false)) := (blk_cell HO4.out.bg _).trans (encN_p _ (by have := HO4.out.pl; omega))
                have fp1 := blk_frozen HO4.out.bg x.f1.toNat
                go_upto_region 12 with (fail)
                go_region_held3 (fun w' => w'.cell? ⟨gx, 1, none⟩ = some (.int .i64 x.f1)) (first | go_keep | exact blk_cell (blk_far (p := ⟨w.heap.size + 1, x.f1.toNat, none⟩) HX4.out (Ne.symm hneg) (.bool true)) 1) (fail)
                have HO5 : Aside0 (OnWay w (W4.setCell ⟨w.heap.size + 1, x.f1.toNat, none⟩ (.bool true)) (w.heap.size + 1) w.heap.size l0.length (P2.set x.f1.toNat true) (Q2.set x.f1.toNat ⟨q1, q2, q3⟩) T2) := ⟨HO4.out.setP (by omega) hneg2 x.f1.toNat (by omega)⟩
                clear bx0 bx1 pc1 fp1 HO4 HX4
                generalize (W4.setCell ⟨w.heap.size + 1, x.f1.toNat, none⟩ (.bool true)) = W5 at HO5 ⊢
                have tc := (blk_cell HO5.out.bg 32).trans (encN_t HO5.out.pl HO5.out.ql)
                have tj : W5.cell? ⟨w.heap.size, j, none⟩ = some (.bool (T2.getD j false)) := (blk_cell HO5.out.bt j).trans (by have := HO5.out.tl; have := CJ.out; simp [show j < T2.length by omega])
                have tf := blk_frozen HO5.out.bt j
                have cj := CJ.out
                have cjb : decide (j < l0.length) = true := decide_eq_true cj
                go_wp2
                go_roundg q
                case measure => omega
                case rel => exact ⟨j + 1, true, _, _, _, congrArg (Value.int .i64) (by have := CJ.out; have := HLen.out; first | rfl | (unfold wrap64; omega) | omega), rfl, ⟨by have := HJ.out; omega⟩, HRow2, ⟨(HO5.out.setT (Nat.le_refl _) hneg2 j).step (below_drew1 (Below.refl _ _))⟩⟩
              | false =>
                rw [if_neg (by rw [HM0.out]; decide)] at hst
                obtain ⟨⟨s1, s2, s3⟩, hs, hst⟩ := Option.bind_eq_some_iff.mp hst
                obtain ⟨⟨q1, q2, q3⟩, hq, hst⟩ := Option.bind_eq_some_iff.mp hst
                simp only [Option.some.injEq, Prod.mk.injEq] at hst
                obtain ⟨rfl, rfl, rfl, rfl⟩ := hst
                have HS := Aside0.mk hs
                have HQ := Aside0.mk hq
                clear hs hq hbg hq8 hp8
                clear HST
                go_wp2
                go_quiet (fail)
                revert nq
                intro n1
                go_wp2
                go_quiet (fail)
                revert nq
                intro n2
                go_upto_region 13 with (fail)
                clear hx0 hx1 hx2 hx3 hx4 hp0 hp1 c1n c1b ceb
                have HX : Aside0 ((((wr.alloc (.cells #[.int .i64 x.f0, .int .i64 x.f1, .int .i64 x.f2, .int .i64 x.f3, .int .i64 x.f4] 28)).drewN n1).drewN n2).heap[wr.heap.size]? = some (.cells #[.int .i64 x.f0, .int .i64 x.f1, .int .i64 x.f2, .int .i64 x.f3, .int .i64 x.f4] 28 (0, 0))) := ⟨blk_drewN (blk_drewN (blk_new wr _) _) _⟩
                have HO1 : Aside0 (OnWay w (((wr.alloc (.cells #[.int .i64 x.f0, .int .i64 x.f1, .int .i64 x.f2, .int .i64 x.f3, .int .i64 x.f4] 28)).drewN n1).drewN n2) (w.heap.size + 1) w.heap.size l0.length P2 Q2 T2) := ⟨HO.out.step (pw_below_drewN (pw_below_drewN (below_alloc (Below.refl _ _) _) _) _)⟩
                have HLT : Aside0 (w.heap.size + 1 < wr.heap.size) := ⟨hlt⟩
                have hnn : x.f0.toNat ≠ x.f1.toNat := fun e => ce (by rw [← HM0.out, ← HM1.out, e])
                clear HO hlt hne hne2
                generalize (((wr.alloc (.cells #[.int .i64 x.f0, .int .i64 x.f1, .int .i64 x.f2, .int .i64 x.f3, .int .i64 x.f4] 28)).drewN n1).drewN n2) = W1 at HX HO1 ⊢
                generalize wr.heap.size = gx at HX HLT ⊢
                have bx0 := blk_cell HX.out 0
                have bx1 := blk_cell HX.out 1
                have bx2 := blk_cell HX.out 2
                have bx3 := blk_cell HX.out 3
                have bx4 := blk_cell HX.out 4
                have hlx := blk_lt HX.out
                have hlg := blk_lt HO1.out.bg
                have hneg : w.heap.size + 1 ≠ gx := by have := HLT.out; omega
                have HQC : Aside0 (∀ W, OnWay w W (w.heap.size + 1) w.heap.size l0.length P2 Q2 T2 → W.cell? ⟨w.heap.size + 1, 8 + x.f1.toNat * 3, none⟩ = some (.int .i64 (Q2.getD x.f1.toNat ⟨0, 0, 0⟩).f0) ∧ W.cell? ⟨w.heap.size + 1, 8 + x.f1.toNat * 3 + 1, none⟩ = some (.int .i64 (Q2.getD x.f1.toNat ⟨0, 0, 0⟩).f1) ∧ W.cell? ⟨w.heap.size + 1, 8 + x.f1.toNat * 3 + 2, none⟩ = some (.int .i64 (Q2.getD x.f1.toNat ⟨0, 0, 0⟩).f2)) := ⟨fun W h => h.cellQ x.f1.toNat (by omega)⟩
                obtain ⟨hc0, hc1, hc2⟩ := HQC.out _ HO1.out
                have HQD : Aside0 (∀ q, (Q2.set x.f0.toNat q).getD x.f1.toNat ⟨0, 0, 0⟩ = Q2.getD x.f1.toNat ⟨0, 0, 0⟩) := ⟨fun q => getD_set_ne _ _ _ _ _ hnn⟩
                clear hnn ce
                generalize Q2.getD x.f1.toNat ⟨0, 0, 0⟩ = qq at hc0 hc1 hc2 HQ HQC HQD
                have hneg2 : w.heap.size ≠ w.heap.size + 1 := by omega
                go_region_held3 (fun w' => w'.cell? ⟨gx, 0, none⟩ = some (.int .i64 x.f0) ∧ w'.cell? ⟨gx, 1, none⟩ = some (.int .i64 x.f1) ∧ w'.cell? ⟨gx, 2, none⟩ = some (.int .i64 x.f2) ∧ w'.cell? ⟨gx, 3, none⟩ = some (.int .i64 x.f3) ∧ w'.cell? ⟨gx, 4, none⟩ = some (.int .i64 x.f4) ∧ w'.cell? ⟨w.heap.size + 1, 8 + x.f1.toNat * 3, none⟩ = some (.int .i64 qq.f0) ∧ w'.cell? ⟨w.heap.size + 1, 8 + x.f1.toNat * 3 + 1, none⟩ = some (.int .i64 qq.f1) ∧ w'.cell? ⟨w.heap.size + 1, 8 + x.f1.toNat * 3 + 2, none⟩ = some (.int .i64 qq.f2)) (first | (have h4_ := HO3.out.setQ (by omega) hneg2 x.f0.toNat (by omega) ⟨q1, q2, q3⟩; have hx4_ := blk_far (p := ⟨w.heap.size + 1, 8 + x.f0.toNat * 3 + 2, none⟩) (blk_far (p := ⟨w.heap.size + 1, 8 + x.f0.toNat * 3 + 1, none⟩) (blk_far (p := ⟨w.heap.size + 1, 8 + x.f0.toNat * 3, none⟩) HX3.out (Ne.symm hneg) (.int .i64 q1)) (Ne.symm hneg) (.int .i64 q2)) (Ne.symm hneg) (.int .i64 q3); obtain ⟨d0_, d1_, d2_⟩ := h4_.cellQ x.f1.toNat (by omega); rw [HQD.out] at d0_ d1_ d2_; exact ⟨blk_cell hx4_ 0, blk_cell hx4_ 1, blk_cell hx4_ 2, blk_cell hx4_ 3, blk_cell hx4_ 4, d0_, d1_, d2_⟩) | exact ⟨blk_cell HX3.out 0, blk_cell HX3.out 1, blk_cell HX3.out 2, blk_cell HX3.out 3, blk_cell HX3.out 4, (HQC.out _ HO3.out).1, (HQC.out _ HO3.out).2.1, (HQC.out _ HO3.out).2.2⟩ | exact ⟨blk_cell HX2.out 0, blk_cell HX2.out 1, blk_cell HX2.out 2, blk_cell HX2.out 3, blk_cell HX2.out 4, (HQC.out _ HO2.out).1, (HQC.out _ HO2.out).2.1, (HQC.out _ HO2.out).2.2⟩ | go_keep) ((first
                  | (go_at_call 45; refine (impl_Leg_shift.calls k x.f0 x.f1 x.f2 x.f3 x.f4 s1 s2 s3 _ (Tab.below HT.out (by repeat (first | exact HO1.out.be | apply below_drew1 | apply pw_below_drewN))) HS.out).mono ?_; rintro e w2 ⟨rfl, hb⟩; have HO2 := Aside0.mk ((HO1.out.step (below_drew1 (Below.refl _ _))).step hb); have HX2 := Aside0.mk (blk_below (blk_drew HX.out) hb); have hlx2 := blk_lt HX2.out; have hlg2 := blk_lt HO2.out.bg; clear hb)
                  | (go_at_call 49; refine (impl_Shift_plus.calls qq.f0 qq.f1 qq.f2 s1 s2 s3 (-1) q1 q2 q3 _ HQ.out).mono ?_; rintro e w3 ⟨rfl, hb⟩; have HO3 := Aside0.mk (HO2.out.step hb); have HX3 := Aside0.mk (blk_below HX2.out hb); have hlx3 := blk_lt HX3.out; obtain ⟨sc0, sc1, sc2⟩ := HO3.out.cellQ x.f0.toNat (by omega); have fz0 := blk_frozen HO3.out.bg (8 + x.f0.toNat * 3); have fz1 := blk_frozen HO3.out.bg (8 + x.f0.toNat * 3 + 1); have fz2 := blk_frozen HO3.out.bg (8 + x.f0.toNat * 3 + 2); clear hb)
                  | fail))
                have HO4 : Aside0 (OnWay w (((w3.setCell ⟨w.heap.size + 1, 8 + x.f0.toNat * 3, none⟩ (.int .i64 q1)).setCell ⟨w.heap.size + 1, 8 + x.f0.toNat * 3 + 1, none⟩ (.int .i64 q2)).setCell ⟨w.heap.size + 1, 8 + x.f0.toNat * 3 + 2, none⟩ (.int .i64 q3)) (w.heap.size + 1) w.heap.size l0.length P2 (Q2.set x.f0.toNat ⟨q1, q2, q3⟩) T2) := ⟨HO3.out.setQ (by omega) hneg2 x.f0.toNat (by omega) ⟨q1, q2, q3⟩⟩
                have HX4 : Aside0 ((((w3.setCell ⟨w.heap.size + 1, 8 + x.f0.toNat * 3, none⟩ (.int .i64 q1)).setCell ⟨w.heap.size + 1, 8 + x.f0.toNat * 3 + 1, none⟩ (.int .i64 q2)).setCell ⟨w.heap.size + 1, 8 + x.f0.toNat * 3 + 2, none⟩ (.int .i64 q3)).heap[gx]? = some (.cells #[.int .i64 x.f0, .int .i64 x.f1, .int .i64 x.f2, .int .i64 x.f3, .int .i64 x.f4] 28 (0, 0))) := ⟨blk_far (p := ⟨w.heap.size + 1, 8 + x.f0.toNat * 3 + 2, none⟩) (blk_far (p := ⟨w.heap.size + 1, 8 + x.f0.toNat * 3 + 1, none⟩) (blk_far (p := ⟨w.heap.size + 1, 8 + x.f0.toNat * 3, none⟩) HX3.out (Ne.symm hneg) (.int .i64 q1)) (Ne.symm hneg) (.int .i64 q2)) (Ne.symm hneg) (.int .i64 q3)⟩
                clear bx0 bx1 bx2 bx3 bx4 hc0 hc1 hc2 hlx hlg hlx2 hlg2 hlx3 sc0 sc1 sc2 fz0 fz1 fz2 HO1 HO2 HO3 HX HX2 HX3 HQC HQD
                generalize (((w3.setCell ⟨w.heap.size + 1, 8 + x.f0.toNat * 3, none⟩ (.int .i64 q1)).setCell ⟨w.heap.size + 1, 8 + x.f0.toNat * 3 + 1, none⟩ (.int .i64 q2)).setCell ⟨w.heap.size + 1, 8 + x.f0.toNat * 3 + 2, none⟩ (.int .i64 q3)) = W4 at HO4 HX4 ⊢
                have bx0 := blk_cell HX4.out 0
                have bx1 := blk_cell HX4.out 1
                have pc1 : W4.cell? ⟨w.heap.size + 1, x.f0.toNat, none⟩ = some (.bool (P2.getD x.f0.toNat false)) := (blk_cell HO4.out.bg _).trans (encN_p _ (by have := HO4.out.pl; omega))
                have fp1 := blk_frozen HO4.out.bg x.f0.toNat
                go_upto_region 14 with (fail)
                go_region_held3 (fun w' => w'.cell? ⟨gx, 0, none⟩ = some (.int .i64 x.f0)) (first | go_keep | exact blk_cell (blk_far (p := ⟨w.heap.size + 1, x.f0.toNat, none⟩) HX4.out (Ne.symm hneg) (.bool true)) 0) (fail)
                have HO5 : Aside0 (OnWay w (W4.setCell ⟨w.heap.size + 1, x.f0.toNat, none⟩ (.bool true)) (w.heap.size + 1) w.heap.size l0.length (P2.set x.f0.toNat true) (Q2.set x.f0.toNat ⟨q1, q2, q3⟩) T2) := ⟨HO4.out.setP (by omega) hneg2 x.f0.toNat (by omega)⟩
                clear bx0 bx1 pc1 fp1 HO4 HX4
                generalize (W4.setCell ⟨w.heap.size + 1, x.f0.toNat, none⟩ (.bool true)) = W5 at HO5 ⊢
                have tc := (blk_cell HO5.out.bg 32).trans (encN_t HO5.out.pl HO5.out.ql)
                have tj : W5.cell? ⟨w.heap.size, j, none⟩ = some (.bool (T2.getD j false)) := (blk_cell HO5.out.bt j).trans (by have := HO5.out.tl; have := CJ.out; simp [show j < T2.length by omega])
                have tf := blk_frozen HO5.out.bt j
                have cj := CJ.out
                have cjb : decide (j < l0.length) = true := decide_eq_true cj
                go_wp2
                go_roundg q
                case measure => omega
                case rel => exact ⟨j + 1, true, _, _, _, congrArg (Value.int .i64) (by have := CJ.out; have := HLen.out; first | rfl | (unfold wrap64; omega) | omega), rfl, ⟨by have := HJ.out; omega⟩, HRow2, ⟨(HO5.out.setT (Nat.le_refl _) hneg2 j).step (below_drew1 (Below.refl _ _))⟩⟩


/-! ### impl_network_stations: function 53 (by hand) -/
/-- The marked places from the i-th on. -/
def marked : List Bool → Nat → List Int
  | [], _ => []
  | b :: bs, i => if b = true then (i : Int) :: marked bs (i + 1) else marked bs (i + 1)
theorem index64 (P : List Bool) (hP : P.length = 8) (j : Nat) (hj : j < 8) (W : World) : (Instr.index 64 (.agg (P.map Value.bool).toArray) (.int .i64 (j : Int))).run Tryd.prog W = .ok (.bool (P.getD j false)) W := by
  have h1 := Tryd.underlying64
  have hz : (0 : Int) ≤ (j : Int) ∧ (j : Int) < 8 := by omega
  simp [Instr.index, asIntOf, run_underlying h1, hz, go_sem, hP, hj]
theorem info64s : (Tryd.prog.info? 64).map (·.size) = some 8 := by kernel_rfl
theorem range64 {W : World} {g : Nat} {P : List Bool} {Q : List S25} {vT vC : Value} (h : W.heap[g]? = some (.cells (encN P Q vT vC) 68 (0, 0))) : W.rangeAt g 0 (P.map Value.bool) := by
  intro j v hv
  have hj : j < P.length := by have := (List.getElem?_eq_some_iff.1 hv).1; simpa using this
  rw [Nat.zero_add, blk_cell h j, encN_p j hj, ← hv]
  simp [hj]
set_option maxHeartbeats 4000000 in
set_option maxRecDepth 100000 in
theorem impl_network_stations.calls (g : Nat) (w0 w : World) (P : List Bool) (Q : List S25) (T : List Bool) (C : List Int) (hN : IsNet w0 w g P Q T C) :
    Calls Tryd.prog 53 #[.pointer (some ⟨g, 0, none⟩)] w fun e w' => ∃ v0_ : Value, e = .returned v0_ ∧ Kd.R (Kd.int .i64) 3 w' w.heap.size (fun _ => True) v0_ (marked P 0) ∧ Below w.heap.size w w' := by
  obtain ⟨gT, vC, hg, hgT, _⟩ := hN.cells
  have HP8 := Aside0.mk hN.pl
  have hload := range64 hg
  have hinf : (Tryd.prog.info? 64).map (·.size) = some (P.map Value.bool).length := by rw [info64s, List.length_map, HP8.out]
  have HB := Aside0.mk (Below.refl w.heap.size w)
  clear hg hgT hN
  have HR8 := Aside0.mk hload
  have HI8 := Aside0.mk hinf
  clear hload hinf
  go_enter Tryd.func53, Tryd.ntmps53
  go_wp2_with (with_reducible refine wpList_load_mid rfl 64 (.tmp 8) rfl g 0 rfl (P.map Value.bool) _ HR8.out Tryd.underlying64 rfl HI8.out ?_)
  clear HR8 HI8
  go_loopg [3, 10] 8 (fun kq v3 v10 w' => ∃ (j : Nat) (acc : List Int), v10 = .int .i64 j ∧ Aside0 (kq + j = 8) ∧ Aside0 (acc.length ≤ j) ∧ Aside0 (acc ++ marked (P.drop j) j = marked P 0) ∧ Aside0 (Kd.R (Kd.int .i64) 3 w' w.heap.size (fun _ => True) v3 acc) ∧ Aside0 (Below w.heap.size w w'))
  case atStart => exact ⟨0, [], rfl, ⟨rfl⟩, ⟨Nat.le_refl _⟩, ⟨rfl⟩, ⟨Kd.R_nil _ _ _ _ _⟩, HB⟩
  case round =>
    clear HB
    obtain ⟨j, acc, rfl, HJ, HA, HE, HO, HB⟩ := hrel
    cases gk with
    | zero =>
      have c1 : ¬ j < 8 := by have := HJ.out; omega
      have c1n : decide (j < 8) = false := decide_eq_false c1
      have c1b : decide ((j : Int) < 8) = false := decide_eq_false (by omega)
      have H := HE.out
      rw [List.drop_of_length_le (by have := HP8.out; omega)] at H
      simp only [marked, List.append_nil] at H
      have HE2 := Aside0.mk H
      clear c1 H HE
      go_wp2
      go_ret
      exact ⟨_, rfl, by rw [← HE2.out]; exact HO.out, HB.out⟩
    | succ q =>
      have c1 : j < 8 := by have := HJ.out; omega
      have c1n : decide (j < 8) = true := decide_eq_true c1
      have c1b : decide ((j : Int) < 8) = true := decide_eq_true (by omega)
      have ci : (j : Int) < (8 : Int) := by omega
      have ci0 : (0 : Int) ≤ (j : Int) := by omega
      have hx := index64 P HP8.out j c1
      have H := HE.out
      rw [List.drop_eq_getElem_cons (show j < P.length by have := HP8.out; omega)] at H
      simp only [marked] at H
      have CJ := Aside0.mk c1
      rw [show P[j]'(by have := HP8.out; omega) = P.getD j false by simp [show j < P.length by have := HP8.out; omega]] at H
      generalize P.getD j false = t0 at hx H
      cases t0 with
      | false =>
        rw [if_neg (by simp)] at H
        have HE2 := Aside0.mk H
        clear H
        go_wp2
        go_roundg q
        case measure => omega
        case rel => exact ⟨j + 1, acc, congrArg (Value.int .i64) (by have := CJ.out; first | rfl | (unfold wrap64; omega) | omega), ⟨by have := HJ.out; omega⟩, ⟨by have := HA.out; omega⟩, HE2, HO, HB⟩
      | true =>
        rw [if_pos rfl] at H
        have HE2 : Aside0 ((acc ++ [(j : Int)]) ++ marked (P.drop (j + 1)) (j + 1) = marked P 0) := ⟨by rw [List.append_assoc]; exact H⟩
        clear H
        go_wp2_with (first
          | ((with_reducible refine gate_builtin (b := .append) (xs := #[.tmp 15, .tmp 17]) rfl ?_); at_builtin; refine Kd.R_append (Kd.int .i64) (w0 := w) w.heap.size rfl (.tmp 15) (.tmp 17) 45 3 (.int .i64 0) 8 rfl Tryd.underlying45 info3 rfl (by decide) (by omega) u3 acc (j : Int) [.int .i64 (j : Int)] (fun _ => True) (fun _ => False) rfl rfl ?aP (fun _ hk => hk.elim) (fun _ _ => trivial) HO.out HB.out (below_size HB.out) ?aL ?_; (case aP => rfl); (case aL => have := HA.out; have := CJ.out; omega); intro v1 w3 ho hb hg hat; have HO3 := Aside0.mk ho; have HB3 := Aside0.mk hb; clear ho hb hg hat))
        go_roundg q
        case measure => omega
        case rel => exact ⟨j + 1, acc ++ [(j : Int)], congrArg (Value.int .i64) (by have := CJ.out; first | rfl | (unfold wrap64; omega) | omega), ⟨by have := HJ.out; omega⟩, ⟨by have := HA.out; simp; omega⟩, HE2, HO3, HB3⟩


/-! ### impl_DeepestStation: function 23 (by hand) -/
/-- The station with the smallest Up. -/
def netDeep (Q : List S25) : List Int → Int → Int
  | [], best => best
  | s :: l, best => netDeep Q l (if (Q.getD s.toNat ⟨0, 0, 0⟩).f2 < (Q.getD best.toNat ⟨0, 0, 0⟩).f2 then s else best)
def impl_DeepestStation.f (k : Nat) (l0 : List S28) : Option (Int × Bool) := (impl_areLegs.f k l0).bind fun b => if b = true then (impl_place.f k l0).bind fun t => some (netDeep t.2.1 (marked t.1 0) 0, true) else some (0, false)
theorem impl_DeepestStation.mono : ∀ a0 k, LeO (impl_DeepestStation.f k a0) (impl_DeepestStation.f (k + 1) a0) := by
  intro a0 k
  have ih0 := impl_areLegs.mono a0 k
  have ih1 := impl_place.mono a0 k
  unfold impl_DeepestStation.f
  repeat' first
    | exact ih0
    | exact ih1
    | exact LeO.refl _
    | refine LeO.ite ?_ ?_
    | refine LeO.bind ?_ (fun _ => ?_)
theorem netQ {W : World} {g : Nat} {P : List Bool} {Q : List S25} {vT vC : Value} (p8 : P.length = 8) (q8 : Q.length = 8) (hg : W.heap[g]? = some (.cells (encN P Q vT vC) 68 (0, 0))) (i : Nat) (hi : i < 8) : W.cell? ⟨g, 8 + i * 3, none⟩ = some (.int .i64 (Q.getD i ⟨0, 0, 0⟩).f0) ∧ W.cell? ⟨g, 8 + i * 3 + 1, none⟩ = some (.int .i64 (Q.getD i ⟨0, 0, 0⟩).f1) ∧ W.cell? ⟨g, 8 + i * 3 + 2, none⟩ = some (.int .i64 (Q.getD i ⟨0, 0, 0⟩).f2) := by
  have e0 := (blk_cell hg (8 + (3 * i + 0))).trans (encN_q p8 i 0 (by omega) (by omega))
  have e1 := (blk_cell hg (8 + (3 * i + 1))).trans (encN_q p8 i 1 (by omega) (by omega))
  have e2 := (blk_cell hg (8 + (3 * i + 2))).trans (encN_q p8 i 2 (by omega) (by omega))
  rw [show 8 + (3 * i + 0) = 8 + i * 3 by omega] at e0
  rw [show 8 + (3 * i + 1) = 8 + i * 3 + 1 by omega] at e1
  rw [show 8 + (3 * i + 2) = 8 + i * 3 + 2 by omega] at e2
  exact ⟨e0, e1, e2⟩
theorem marked_rng : ∀ (P : List Bool) (i : Nat), ∀ s ∈ marked P i, (i : Int) ≤ s ∧ s < (i : Int) + P.length
  | [], i, s, h => by simp [marked] at h
  | b :: bs, i, s, h => by
    simp only [marked] at h
    have ih := marked_rng bs (i + 1)
    split at h
    · rcases List.mem_cons.mp h with h | h
      · rw [h, List.length_cons]; omega
      · have := ih s h; rw [List.length_cons]; omega
    · have := ih s h; rw [List.length_cons]; omega
theorem marked_rng8 (P : List Bool) (h : P.length = 8) : ∀ s ∈ marked P 0, 0 ≤ s ∧ s < 8 := fun s hs => by
  have := marked_rng P 0 s hs
  rw [h] at this
  omega
set_option maxHeartbeats 4000000 in
set_option maxRecDepth 100000 in
theorem impl_DeepestStation.calls (k : Nat) (A0 : Option Addr) (c0 : Nat) (l0 : List S28) (r1 : Int) (r2 : Bool) (w : World) (hT : Tab w) (hr0 : Kd.C k28 w A0 l0.length l0) (hc0 : l0.length ≤ c0) (h : impl_DeepestStation.f k l0 = some (r1, r2)) :
    Calls Tryd.prog 23 #[.slice A0 l0.length c0] w fun e w' => e = .returned (.tuple #[.int .i64 r1, .bool r2]) ∧ Below w.heap.size w w' := by
  have HT := Aside0.mk hT
  have HR0 := Aside0.mk hr0
  have HC0 := Aside0.mk hc0
  have HB := Aside0.mk (Below.refl w.heap.size w)
  unfold impl_DeepestStation.f at h
  obtain ⟨b, hb, h2⟩ := Option.bind_eq_some_iff.mp h
  clear h
  have h := h2
  clear h2
  have HA := Aside0.mk hb
  clear hT hr0 hc0 hb
  cases b with
  | false =>
    simp only [Bool.false_eq_true, if_false, Option.some.injEq, Prod.mk.injEq] at h
    obtain ⟨rfl, rfl⟩ := h
    go_enter Tryd.func23, Tryd.ntmps23
    go_wp2_with (go_at_call 48; refine (impl_areLegs.calls k A0 c0 l0 false _ HR0.out HC0.out HA.out).mono ?_; rintro e w1 ⟨rfl, hb⟩; have HB1 := Aside0.mk (below_step HB.out hb); clear hb)
    go_ret2
    exact ⟨rfl, HB1.out⟩
  | true =>
    simp only [if_true] at h
    obtain ⟨⟨P, Q, T, C⟩, hp, h2⟩ := Option.bind_eq_some_iff.mp h
    clear h
    simp only [Option.some.injEq, Prod.mk.injEq] at h2
    obtain ⟨h, rfl⟩ := h2
    have HP := Aside0.mk hp
    have HD := Aside0.mk (show netDeep Q (marked P 0) 0 = r1 from h)
    clear hp h
    go_enter Tryd.func23, Tryd.ntmps23
    go_wp2_with (first
      | (go_at_call 48; refine (impl_areLegs.calls k A0 c0 l0 true _ HR0.out HC0.out HA.out).mono ?_; rintro e w1 ⟨rfl, hb⟩; have HB1 := Aside0.mk (below_step HB.out hb); clear hb)
      | (go_at_call 52; refine (impl_place.calls k A0 c0 l0 P Q T C _ (Tab.below HT.out HB1.out) (Kd.C_below HR0.out HB1.out) HC0.out HP.out).mono ?_; rintro e w2 ⟨g, rfl, hN, hb⟩; have HN := Aside0.mk hN; have HB2 := Aside0.mk (below_step HB1.out hb); clear hb hN)
      | (go_at_call 53; refine (impl_network_stations.calls g _ _ P Q T C HN.out).mono ?_; rintro e w3 ⟨v, rfl, hv, hb⟩; obtain ⟨Av, cv, rfl, hcl, hC⟩ := Kd.R_reads hv; have HCV := Aside0.mk hC; have HN3 := Aside0.mk (HN.out.step hb); have HB3 := Aside0.mk (below_step HB2.out hb); clear hb hv hC hcl))
    have HL8 := Aside0.mk (marked_rng8 P HN3.out.pl)
    have HLM := Aside0.mk (show (marked P 0).length ≤ 9223372036854775807 from HCV.out.2.1)
    go_loopg [5, 16] (marked P 0).length (fun kq v5 v16 w' => ∃ (j : Nat) (best : Int), v5 = .int .i64 best ∧ v16 = .int .i64 j ∧ Aside0 (kq + j = (marked P 0).length) ∧ Aside0 (netDeep Q ((marked P 0).drop j) best = r1) ∧ Aside0 (0 ≤ best ∧ best < 8) ∧ Drawn0 w3 w')
    case atStart => exact ⟨0, 0, rfl, rfl, ⟨rfl⟩, HD, ⟨by omega, by omega⟩, Drawn0.refl _⟩
    case round =>
      clear HD
      obtain ⟨j, best, rfl, rfl, HJ, HM, HBR, ⟨m1, rfl⟩⟩ := hrel
      cases gk with
      | zero =>
        have c1 : ¬ j < (marked P 0).length := by have := HJ.out; omega
        have c1n : decide (j < (marked P 0).length) = false := decide_eq_false c1
        have c1b : decide ((j : Int) < ((marked P 0).length : Int)) = false := decide_eq_false (by omega)
        have H := HM.out
        rw [List.drop_of_length_le (by omega)] at H
        have H2 := Aside0.mk (show best = r1 from H)
        clear c1 H HM
        go_wp2
        go_ret2
        exact ⟨by rw [← H2.out]; rfl, pw_below_drewN HB3.out _⟩
      | succ q =>
        have c1 : j < (marked P 0).length := by have := HJ.out; omega
        have c1n : decide (j < (marked P 0).length) = true := decide_eq_true c1
        have c1b : decide ((j : Int) < ((marked P 0).length : Int)) = true := decide_eq_true (by omega)
        have CJ := Aside0.mk c1
        obtain ⟨ad, e1, hx⟩ := Kd.at_int HCV.out (j : Int) (by omega) (by omega)
        cases e1
        rw [Int.toNat_natCast] at hx
        have er : rd (marked P 0) (j : Int) = (marked P 0)[j] := by simp [rd, c1]
        obtain ⟨s, hs⟩ : ∃ s, (marked P 0)[j] = s := ⟨_, rfl⟩
        rw [er, hs] at hx
        have hm := HL8.out s (by rw [← hs]; exact List.getElem_mem _)
        have H := HM.out
        rw [List.drop_eq_getElem_cons c1, hs] at H
        simp only [netDeep] at H
        obtain ⟨gT, vC, hg, _, _⟩ := HN3.out.cells
        obtain ⟨b0, b1⟩ := HBR.out
        obtain ⟨s0, s1⟩ := hm
        have hqs := (netQ HN3.out.pl HN3.out.ql hg s.toNat (by omega)).2.2
        have hqb := (netQ HN3.out.pl HN3.out.ql hg best.toNat (by omega)).2.2
        generalize (Q.getD s.toNat ⟨0, 0, 0⟩).f2 = us at hqs H
        generalize (Q.getD best.toNat ⟨0, 0, 0⟩).f2 = ub at hqb H
        have SR := Aside0.mk (show 0 ≤ s ∧ s < 8 from ⟨s0, s1⟩)
        clear hg er hs HM
        by_cases c : us < ub
        · rw [if_pos c] at H
          have HE := Aside0.mk H
          have cb : decide (us < ub) = true := decide_eq_true c
          clear H c
          go_wp2
          go_quiet (fail)
          go_wp2
          go_roundg q
          case measure => omega
          case rel => exact ⟨j + 1, s, rfl, congrArg (Value.int .i64) (by have := CJ.out; have := HLM.out; first | rfl | (unfold wrap64; omega) | omega), ⟨by have := HJ.out; omega⟩, HE, SR, by repeat (first | exact Drawn0.refl _ | apply Drawn0.step)⟩
        · rw [if_neg c] at H
          have HE := Aside0.mk H
          have cb : decide (us < ub) = false := decide_eq_false c
          clear H c
          go_wp2
          go_quiet (fail)
          go_wp2
          go_roundg q
          case measure => omega
          case rel => exact ⟨j + 1, best, rfl, congrArg (Value.int .i64) (by have := CJ.out; have := HLM.out; first | rfl | (unfold wrap64; omega) | omega), ⟨by have := HJ.out; omega⟩, HE, HBR, by repeat (first | exact Drawn0.refl _ | apply Drawn0.step)⟩


end Go.Proofs.YtjcmolbaanedaaaDoor.XFnExactDeepestStation
