/- Contracts of the functions that the law FnTeams comes to: each is told as a plain function of its arguments, and the machine's call does what that function says; no condition. Written by programs (print.py, xprint.py); Lean checks it. -/
import Derived.Test.YtafdklajmklmkaaGreatDoorXFnTeamsx0
import Derived.Shelf.SlSortCmp.NoneTotal
import Derived.Test.YtafdklajmklmkaaGreatDoorXFnTeamsx6
namespace Go.Proofs.YtafdklajmklmkaaGreatDoor.XFnTeams
open Go.RowKit Go.Proofs.YtafdklajmklmkaaGreatDoorW.PrintWords Go.Proofs.YtafdklajmklmkaaGreatDoorW.PrintLast Go.Proofs.YtafdklajmklmkaaGreatDoorW.PrintMore
attribute [local go_sem] max2_int min2_int max_two min_two max_three min_three max_four min_four   -- for this text's walks alone
set_option linter.unusedVariables false
set_option linter.unusedSimpArgs false

/-! ### The order of lists of numbers -/
def lxL : List Int → List Int → Bool
 | [], [] => false
 | [], _ :: _ => true
 | _ :: _, [] => false
 | a :: ar, b :: bs => if a = b then lxL ar bs else decide (a < b)
theorem lxL_irr : ∀ a, lxL a a = false
 | [] => rfl
 | a :: ar => by simp [lxL, lxL_irr ar]
theorem lxL_trans : ∀ a b c, lxL a b = true → lxL b c = true → lxL a c = true
 | [], [], _, h, _ => by simp [lxL] at h
 | [], _ :: _, [], _, h => by simp [lxL] at h
 | [], _ :: _, _ :: _, _, _ => rfl
 | _ :: _, [], _, h, _ => by simp [lxL] at h
 | _ :: _, _ :: _, [], _, h => by simp [lxL] at h
 | a :: ar, b :: bs, c :: cs, h, g => by
  simp only [lxL] at h g ⊢
  by_cases e1 : a = b
  ·by_cases e2 : b = c
   ·rw [if_pos e1] at h; rw [if_pos e2] at g; rw [if_pos (e1.trans e2)]; exact lxL_trans ar bs cs h g
   ·rw [if_neg e2] at g; rw [if_neg (by rw [e1]; exact e2), e1]; exact g
  ·by_cases e2 : b = c
   ·rw [if_neg e1] at h; rw [← e2, if_neg e1]; exact h
   ·rw [if_neg e1] at h; rw [if_neg e2] at g
    have h := of_decide_eq_true h; have g := of_decide_eq_true g
    rw [if_neg (by omega)]; exact decide_eq_true (by omega)
theorem lxL_total : ∀ a b, lxL a b = false → lxL b a = false → a = b
 | [], [], _, _ => rfl
 | [], _ :: _, h, _ => by simp [lxL] at h
 | _ :: _, [], _, h => by simp [lxL] at h
 | a :: ar, b :: bs, h, g => by
  simp only [lxL] at h g
  by_cases e : a = b
  ·rw [if_pos e] at h; rw [if_pos e.symm] at g; rw [e, lxL_total ar bs h g]
  ·rw [if_neg e] at h; rw [if_neg (Ne.symm e)] at g
   have h := of_decide_eq_false h; have g := of_decide_eq_false g; omega
theorem lxL_ntrans {a b c : List Int} (h : lxL a b = false) (g : lxL b c = false) : lxL a c = false := by
 cases e : lxL a c with
 | false => rfl
 | true =>
  cases e2 : lxL c b with
  | true => have := lxL_trans _ _ _ e e2; rw [h] at this; cases this
  | false => have := lxL_total _ _ e2 g; subst this; rw [h] at e; cases e
/-! ### A row of rows, sorted; worlds that have only grown (by hand) -/
/-- The world has only grown, and has drawn no less. -/
def Gr (w w' : World) : Prop := Below w.heap.size w w' ∧ w.drawn ≤ w'.drawn
theorem Gr.refl (w : World) : Gr w w := ⟨Below.refl _ _, Nat.le_refl _⟩
theorem Gr.trans {a b c : World} (h : Gr a b) (k : Gr b c) : Gr a c := ⟨below_step h.1 k.1, Nat.le_trans h.2 k.2⟩
theorem Gr.grow {w w' : World} (h : Gr w w') : ∃ q os, w' = Sort.grow (w.drewN q) os := by
 obtain ⟨⟨h1, h2, h3, h4, h5⟩, hd⟩ := h
 refine ⟨w'.drawn - w.drawn, w'.heap.extract w.heap.size w'.heap.size, ?_⟩
 obtain ⟨a1, a2, a3, a4, a5⟩ := w
 obtain ⟨b1, b2, b3, b4, b5⟩ := w'
 simp only at h1 h2 h3 h4 h5 hd
 subst h1 h2 h3
 simp only [Sort.grow, World.drewN, World.mk.injEq, and_true, true_and]
 refine ⟨?_, by omega⟩
 apply Array.ext_getElem?
 intro k
 rw [Array.getElem?_append]
 by_cases hk : k < a1.size
 ·rw [if_pos hk]; exact h5 k hk
 ·rw [if_neg hk, Array.getElem?_extract]
  have e : a1.size + (k - a1.size) = k := by omega
  by_cases hk2 : k < b1.size
  ·rw [if_pos (by omega), e]
  ·rw [if_neg (by omega), Array.getElem?_eq_none (by omega)]
theorem run_append_dr {P : Program} (w : World) (base : Nat) (t ty e : TypeId) (i : TypeInfo) (z : Value) (size bytes : Nat) (ht : P.underlying t = some (.slice e)) (hi : P.info? e = some i) (hz : i.zero = some z)
  (hsize : i.size = size) (hby : i.bytes = bytes) (v : Value) (n : Nat) (xs : List Value) (hown : w.ownsRow base e size v n xs)
  (a : Addr) (m c : Nat) (news : List Value) (hl : news.length = m * size) (hnews : ∀ j u, news[j]? = some u → w.cell? (a.add j) = some u) (h1 : ∀ u ∈ news, u.oneCell' = true)
  (hm0 : 0 < m) (h63 : n + m ≤ maxLen) (hbytes : (n + m) * bytes ≤ 140737488355328) {v' : Value} {w' : World} (hr : (Builtin.append_ #[t, t] ty #[v, .slice (some a) m c]).run P w = .ok v' w') : w.drawn ≤ w'.drawn := by
 subst hsize; subst hby
 have hsmall : n + m ≤ 9223372036854775807 := by simp only [maxLen] at h63; omega
 rcases hown.2 with ⟨rfl, rfl⟩ | ⟨g, cap, cur, rfl, hbg, hg, hnc, hcm, hcs, htake⟩
 ·have e := run_append_nil (P := P) w t ty e i z ht hi hz a m c news hl hnews hm0 (by omega) (by have hb := hbytes; simp only [Nat.zero_add] at hb; omega)
  rw [e] at hr
  injection hr with _ hw
  subst hw
  exact Nat.le_succ _
 ·by_cases hroom : n + m ≤ cap
  ·have hfit : n * i.size + news.length ≤ cur.size := by rw [hl, hcs, ← Nat.add_mul]; exact Nat.mul_le_mul_right _ hroom
   have e := run_append_room (P := P) w t ty e i ht hi g n cap cur hg a m c news hl hnews h1 hroom hfit
   rw [e] at hr
   injection hr with _ hw
   subst hw
   exact Nat.le_refl _
  ·have holds : ∀ j u, xs[j]? = some u → w.cell? ((⟨g, 0, none⟩ : Addr).add j) = some u := hown.cells (g := g) rfl
   have e := run_append_grow (P := P) w t ty e i z ht hi hz ⟨g, 0, none⟩ n cap xs hown.1 holds a m c news hl hnews (by omega) (by omega) (growslice_fits (by omega) hbytes)
   rw [e] at hr
   injection hr with _ hw
   subst hw
   exact Nat.le_succ _
/-- append of one whole number, behind 'at_builtin'. -/
theorem append_int_dr {P : Program} {ops : Array Oper} {rest : List Oper} {o : Oper} {a : Act} {Q : Exit → Act → World → Prop} {w0 W : World} (hgd : o.guard = none) (s x : Operand) (t e : TypeId)
  (ho : o.op = .call { callee := .builtin .append, args := #[s, x], argTypes := #[t, t] })
  (ht : P.underlying t = some (.slice e)) (hinfo : (P.info? e).map (fun i => (i.zero, i.size, i.bytes)) = some (some (.int .i64 0), 1, 8))
  (v : Value) (xs : List Int) (y : Int) (hs : a.eval s = v) (hx : a.eval x = .slice (some ⟨W.heap.size, 0, none⟩) 1 1)
  (HO : Kd.R (Kd.int .i64) e W w0.heap.size (fun _ => True) v xs) (HB : Gr w0 W) (hl : xs.length ≤ 1000000000)
  (h : ∀ v1 w1, Kd.R (Kd.int .i64) e w1 w0.heap.size (fun _ => True) v1 (xs ++ [y]) → Gr w0 w1 → wpList P ops Q rest (a.put o.dst v1) w1) :
  wpList P ops Q (o :: rest) a (W.alloc (.cells #[.int .i64 y] e)) := by
 obtain ⟨i0, hi, hzz⟩ := Option.map_eq_some_iff.1 hinfo
 simp only [Prod.mk.injEq] at hzz
 obtain ⟨hz0, hz1, hz2⟩ := hzz
 have hown := (Kd.own_of_R HO).alloc (.cells #[.int .i64 y] e)
 have hnews := World.news_of_block (cs := #[Value.int .i64 y]) (t := e) (fr := (0, 0)) (heap_alloc_new W (.cells #[.int .i64 y] e))
 have hbase : w0.heap.size ≤ (W.alloc (.cells #[.int .i64 y] e)).heap.size := by have := HB.1.size; simp; omega
 refine wpList_plain hgd fun K hK => ?_
 obtain ⟨v', w', hr, h2, h3, h4, h5⟩ := run_append_own_at (P := P) (W.alloc (.cells #[.int .i64 y] e)) w0.heap.size t o.type e i0 (.int .i64 0) 1 8 ht hi hz0 hz1 hz2 rfl (by decide) v xs.length (encs (Value.int .i64) xs) hown ⟨W.heap.size, 0, none⟩ 1 1 [.int .i64 y] (by simp) (by simpa using hnews) (by simp [Value.oneCell']) (by simp only [maxLen]; omega) (by omega) hbase
 have hd := run_append_dr (P := P) (W.alloc (.cells #[.int .i64 y] e)) w0.heap.size t o.type e i0 (.int .i64 0) 1 8 ht hi hz0 hz1 hz2 v xs.length (encs (Value.int .i64) xs) hown ⟨W.heap.size, 0, none⟩ 1 1 [.int .i64 y] (by simp) (by simpa using hnews) (by simp [Value.oneCell']) (by decide) (by simp only [maxLen]; omega) (by omega) hr
 unfold Oper.wp execOp
 simp only [ho, resolve, invoke, builtin, Sem.run_bind, Sem.run_pure, Result.andThen_ok, List.map_toArray, List.map_cons, List.map_nil, hs, hx, hr]
 refine hK _ _ (h v' w' (Kd.R_of_own ?_ (fun _ _ => trivial)) ⟨(below_alloc HB.1 _).grown h3 hbase (own_base (Kd.own_of_R HO)), Nat.le_trans HB.2 hd⟩)
 simpa [encs] using h2
/-! #### the sorted row -/
section
open Go.Sort Go.Shelf Go.Proofs
theorem sort_other {α : Type} [Inhabited α] (enc : α → Value) (W : World) (g m : Nat) (dk : Array α) (os : Array Obj) (k : Nat) (hk : k < W.heap.size) (hne : k ≠ g) : (sortWorld enc W g 0 m dk os).heap[k]? = W.heap[k]? := by
 show ((putRow enc (Sort.ahead W m) g 0 dk).heap ++ os)[k]? = _
 have hs : (putRow enc (Sort.ahead W m) g 0 dk).heap.size = W.heap.size := by simp
 rw [Array.getElem?_append_left (by omega)]
 show (W.heap.modify g _)[k]? = _
 rw [Array.getElem?_modify, if_neg (Ne.symm hne)]
theorem sort_this {α : Type} [Inhabited α] (enc : α → Value) (W : World) (g m : Nat) (dk : Array α) (os : Array Obj) (cur : Array Value) (e : TypeId) (h : W.heap[g]? = some (.cells cur e (0, 0))) : (sortWorld enc W g 0 m dk os).heap[g]? = some (.cells (putCells enc 0 dk cur) e (0, 0)) := by
 have hg : g < W.heap.size := (Array.getElem?_eq_some_iff.mp h).1
 show ((putRow enc (Sort.ahead W m) g 0 dk).heap ++ os)[g]? = _
 have hs : (putRow enc (Sort.ahead W m) g 0 dk).heap.size = W.heap.size := by simp
 rw [Array.getElem?_append_left (by omega)]
 show (W.heap.modify g _)[g]? = _
 rw [Array.getElem?_modify, if_pos rfl, h]
 rfl
theorem sort_size {α : Type} [Inhabited α] (enc : α → Value) (W : World) (g m : Nat) (dk : Array α) (os : Array Obj) : W.heap.size ≤ (sortWorld enc W g 0 m dk os).heap.size := by
 show W.heap.size ≤ ((putRow enc (Sort.ahead W m) g 0 dk).heap ++ os).size
 rw [Array.size_append]
 have hs : (putRow enc (Sort.ahead W m) g 0 dk).heap.size = W.heap.size := by simp
 omega
theorem below_sort {α : Type} [Inhabited α] {w0 W : World} (enc : α → Value) (g m : Nat) (dk : Array α) (os : Array Obj) (h : Below w0.heap.size w0 W) (hg : w0.heap.size ≤ g) : Below w0.heap.size w0 (sortWorld enc W g 0 m dk os) :=
 ⟨h.os, h.tape, h.output, Nat.le_trans h.size (sort_size enc W g m dk os), fun k hk => (sort_other enc W g m dk os k (Nat.lt_of_lt_of_le hk h.size) (by omega)).trans (h.block k hk)⟩
theorem putCells_take {α : Type} [Inhabited α] (enc : α → Value) (dk : Array α) (cur : Array Value) (h : dk.size ≤ cur.size) : (putCells enc 0 dk cur).toList.take dk.size = dk.toList.map enc := by
 apply List.ext_getElem?
 intro k
 rw [List.getElem?_take]
 by_cases hk : k < dk.size
 ·rw [if_pos hk, Array.getElem?_toList]
  unfold putCells
  rw [Array.getElem?_mapIdx, Array.getElem?_eq_getElem (show k < cur.size by omega), Option.map_some, if_pos ⟨Nat.zero_le _, by omega⟩, Nat.sub_zero, List.getElem?_map, Array.getElem?_toList, Array.getElem?_eq_getElem hk, Option.map_some, getElem!_pos dk k hk]
 ·rw [if_neg hk, List.getElem?_eq_none (by simp; omega)]
/-- A row of one cell an element: its values, and the row however it is sorted. -/
theorem R_perm {β : Type} {d : Kd β} (hd : d.sz = 1) {e base : Nat} {W : World} {g n cap : Nat} {S : List β} [Inhabited (Fin S.length)] (HO : d.R e W base (fun _ => True) (.slice (some ⟨g, 0, none⟩) n cap) S) :
  ∃ enc : Fin S.length → Value, (∀ i, (enc i).oneCell' = true) ∧ (∀ i, d.M W base (fun k => k ≠ g) S[i] [enc i]) ∧ Holds enc W g 0 (Array.finRange S.length) ∧
   ∀ (m : Nat) (dk : Array (Fin S.length)) (os : Array Obj), dk.size = S.length → d.R e (sortWorld enc W g 0 m dk os) base (fun _ => True) (.slice (some ⟨g, 0, none⟩) n cap) (dk.toList.map fun i => S[i]) := by
 obtain ⟨_, inner, ⟨hil, hcase⟩, hrl, hr⟩ := HO
 rw [hd] at hil hrl hr hcase
 rw [Nat.mul_one] at hil hrl
 have hel : ∀ i : Fin S.length, d.M W base (fun k => True ∧ some k ≠ (Value.slice (some ⟨g, 0, none⟩) n cap).ownBlock) S[i] [inner[i.val]'(by omega)] := by
  intro i
  have h := hr i.val S[i] (List.getElem?_eq_getElem i.isLt)
  rw [Nat.mul_one, List.drop_eq_getElem_cons (by omega)] at h
  exact h
 rcases hcase with ⟨hv, _⟩ | ⟨g', cap', cur, hv, hb, hh, hnc, hcm, hcs, htake⟩
 ·cases hv
 ·injection hv with ha hn hc
  injection ha with ha
  injection ha with ha
  subst ha hc hn
  rw [Nat.mul_one] at hcs htake
  have hin : ∀ i (hi : i < S.length), cur[i]? = some (inner[i]'(by omega)) := by
   intro i hi
   have h2 : inner[i]? = some (inner[i]'(by omega)) := List.getElem?_eq_getElem (by omega)
   rw [← h2, ← htake, List.getElem?_take, if_pos hi, Array.getElem?_toList]
  refine ⟨fun i => inner[i.val]'(by omega), fun i => ?_, fun i => ?_, ?_, ?_⟩
  ·exact d.K_one (d.K_of_M (hel i)) _ (List.mem_singleton.mpr rfl)
  ·exact d.M_mono (fun k hk => by have := hk.2; simp [Value.ownBlock] at this; exact this) (hel i)
  ·intro j hj
   have hj' : j < S.length := by simpa using hj
   have ej : (Array.finRange S.length)[j]! = ⟨j, hj'⟩ := by rw [getElem!_pos _ j hj]; simp
   rw [ej]
   refine ⟨?_, ?_⟩
   ·simp [World.cell?, hh, hin j hj']
   ·simp [World.frozen?, hh]
  ·intro m dk os hs
   refine ⟨fun _ _ => trivial, dk.toList.map (fun i => inner[i.val]'(by omega)), ⟨by simp [hd, hs], .inr ⟨g, cap, putCells (fun i : Fin S.length => inner[i.val]'(by omega)) 0 dk cur, by simp [hs], hb, sort_this _ W g m dk os cur e hh, by simpa [hs] using hnc, hcm, ?_, ?_⟩⟩, ?_⟩
   ·rw [hd, Nat.mul_one]; simp [putCells, hcs]
   ·rw [hd, Nat.mul_one]
    have := putCells_take (fun i : Fin S.length => inner[i.val]'(by omega)) dk cur (by omega)
    simpa [hs] using this
   ·rw [hd]
    refine ⟨by simp, fun j p hj => ?_⟩
    rw [List.getElem?_map] at hj
    obtain ⟨i, hi, rfl⟩ := Option.map_eq_some_iff.mp hj
    have hjl : j < dk.toList.length := (List.getElem?_eq_some_iff.mp hi).1
    rw [Nat.mul_one, ← List.map_drop, List.drop_eq_getElem_cons hjl]
    have ei : dk.toList[j] = i := (List.getElem?_eq_some_iff.mp hi).2
    rw [ei]
    simp only [List.map_cons, List.take_succ_cons, List.take_zero]
    refine d.M_mono ?_ (Kd.M_step (w1 := sortWorld (fun i : Fin S.length => inner[i.val]'(by omega)) W g 0 m dk os) (hel i) ?_)
    ·intro k hk; simpa using hk
    ·intro k hk hlt
     refine sort_other _ W g m dk os k hlt ?_
     have := hk.2; simp [Value.ownBlock] at this
     exact this
/-- The tags moved along. -/
theorem tag_perm {β : Type} {d : Kd β} {f f' : Nat → Nat} {e base : Nat} {w : World} {ok : Nat → Prop} {v : Value} {ys : List (β × Nat)} (h : (Kd.tag f d).R e w base ok v ys) (hf : ∀ (j : Nat) p, ys[j]? = some p → ∀ k, f k = p.2 → f' k = j) : (Kd.tag f' d).R e w base ok v (ys.map (·.1)).zipIdx := by
 obtain ⟨h0, inner, ho, hl, hr⟩ := h
 refine ⟨h0, inner, (by simp only [List.length_zipIdx, List.length_map]; exact ho), (by simp only [List.length_zipIdx, List.length_map]; exact hl), fun j p hj => ?_⟩
 rw [List.getElem?_zipIdx, List.getElem?_map, Nat.zero_add] at hj
 obtain ⟨x, hx, rfl⟩ := Option.map_eq_some_iff.mp hj
 obtain ⟨q, hq, rfl⟩ := Option.map_eq_some_iff.mp hx
 exact d.M_mono (fun k hk => ⟨hk.1, hf j q hq k hk.2⟩) (hr j q hq)
theorem S_perm {β : Type} {d : Kd β} (hd : d.sz = 1) {e base : Nat} {W : World} {g n cap : Nat} {S : List β} [Inhabited (Fin S.zipIdx.length)] (HO : Kd.S d e W base (fun _ => True) (.slice (some ⟨g, 0, none⟩) n cap) S) :
  ∃ enc : Fin S.zipIdx.length → Value, (∀ i, (enc i).oneCell' = true) ∧ (∀ i : Fin S.zipIdx.length, d.M W base (fun k => k ≠ g) (S.zipIdx[i]).1 [enc i]) ∧ Holds enc W g 0 (Array.finRange S.zipIdx.length) ∧
   ∀ (m : Nat) (dk : Array (Fin S.zipIdx.length)) (os : Array Obj), dk.size = S.zipIdx.length → dk.toList.Nodup → Kd.S d e (sortWorld enc W g 0 m dk os) base (fun _ => True) (.slice (some ⟨g, 0, none⟩) n cap) (dk.toList.map fun i => (S.zipIdx[i]).1) := by
 obtain ⟨f, hR⟩ := HO
 obtain ⟨enc, h1, h2, h3, h4⟩ := R_perm (d := Kd.tag f d) hd hR
 refine ⟨enc, h1, fun i => d.M_mono (fun k hk => hk.1) (h2 i), h3, fun m dk os hs hn => ?_⟩
 have h5 := h4 m dk os hs
 refine ⟨fun k => (dk.toList.map (fun i : Fin S.zipIdx.length => (S.zipIdx[i]).2)).idxOf (f k), ?_⟩
 have h6 := tag_perm (f' := fun k => (dk.toList.map (fun i : Fin S.zipIdx.length => (S.zipIdx[i]).2)).idxOf (f k)) h5 (by
  intro j p hj k hk
  rw [List.getElem?_map] at hj
  obtain ⟨i, hi, rfl⟩ := Option.map_eq_some_iff.mp hj
  have hjl : j < dk.toList.length := (List.getElem?_eq_some_iff.mp hi).1
  have ei : dk.toList[j] = i := (List.getElem?_eq_some_iff.mp hi).2
  have hn2 : (dk.toList.map (fun i : Fin S.zipIdx.length => (S.zipIdx[i]).2)).Nodup := by
   unfold List.Nodup
   rw [List.pairwise_map]
   refine List.Pairwise.imp ?_ hn
   intro a b hab he
   exact hab (Fin.ext (by simpa using he))
  have := hn2.idxOf_getElem j (by simpa using hjl)
  have e1 : (dk.toList.map (fun i : Fin S.zipIdx.length => (S.zipIdx[i]).2))[j]'(by simpa using hjl) = (S.zipIdx[i]).2 := by rw [List.getElem_map, ei]
  show (dk.toList.map (fun i : Fin S.zipIdx.length => (S.zipIdx[i]).2)).idxOf (f k) = j
  rw [hk, ← e1]
  exact this)
 rw [List.map_map] at h6
 exact h6
end
/-! ### 37: idsOf; 63: the comparison; the sort of the teams (by hand) -/
def idsL (M : List S41) : List Int := M.map (·.f0)
theorem rd_T41_at (l : List S41) (j : Nat) (h : j < l.length) : rd_T41 l (j : Int) = l[j] := by simp [rd_T41, h]
set_option maxHeartbeats 4000000 in
set_option maxRecDepth 100000 in
theorem idsOf_gr (A0 : Option Addr) (c0 : Nat) (l0 : List S41) (w : World) (hr0 : Kd.C k41 w A0 l0.length l0) (hc0 : l0.length ≤ c0) (hl : l0.length ≤ 1000000) :
  Calls Tryz.prog 37 #[.slice A0 l0.length c0] w fun e w' => ∃ v0_ : Value, e = .returned v0_ ∧ Kd.R (Kd.int .i64) 3 w' w.heap.size (fun _ => True) v0_ (idsL l0) ∧ Gr w w' := by
 have hu41 := Tryz.underlying41; have HR0 := Aside0.mk hr0; have HC0 := Aside0.mk hc0; have HL := Aside0.mk hl; clear hr0 hc0 hl
 go_enter Tryz.func37, Tryz.ntmps37
 go_wp2
 go_loopg [3, 8] l0.length (fun kq v3 v8 w' => ∃ (j : Nat), v8 = .int .i64 j ∧ Aside0 (kq + j = l0.length) ∧ Aside0 (Kd.R (Kd.int .i64) 3 w' w.heap.size (fun _ => True) v3 (idsL (l0.take j))) ∧ Aside0 (Gr w w'))
 case atStart => exact ⟨0, rfl, ⟨by omega⟩, ⟨Kd.R_nil _ _ _ _ _⟩, ⟨Gr.refl _⟩⟩
 case round =>
  obtain ⟨j, rfl, HJ, HO, HG⟩ := hrel
  cases gk with
  | zero =>
   have c1 : ¬ j < l0.length := by have := HJ.out; omega
   have c1n : decide (j < l0.length) = false := decide_eq_false c1
   have c1b : decide ((j : Int) < (l0.length : Int)) = false := decide_eq_false (by omega)
   have H := HO.out
   rw [List.take_of_length_le (by omega)] at H
   have HO2 := Aside0.mk H; clear c1 H HO
   go_wp2
   go_ret
   exact ⟨_, rfl, HO2.out, HG.out⟩
  | succ q =>
   have c1 : j < l0.length := by have := HJ.out; omega
   have c1n : decide (j < l0.length) = true := decide_eq_true c1
   have c1b : decide ((j : Int) < (l0.length : Int)) = true := decide_eq_true (by omega)
   obtain ⟨ad, e1, hx0, hx1, hx2, hx3⟩ := at_T41 HR0.out (j : Int) (by omega) (by omega)
   cases e1
   simp only [Int.toNat_natCast] at hx0 hx1 hx2 hx3
   replace hx0 := (HG.out.1.cell (World.block_lt_of_cell? w _ hx0)).trans hx0
   replace hx1 := (HG.out.1.cell (World.block_lt_of_cell? w _ hx1)).trans hx1
   replace hx2 := (HG.out.1.cell (World.block_lt_of_cell? w _ hx2)).trans hx2
   replace hx3 := (HG.out.1.cell (World.block_lt_of_cell? w _ hx3)).trans hx3
   have hs : idsL (l0.take (j + 1)) = idsL (l0.take j) ++ [(rd_T41 l0 (j : Int)).f0] := by
    unfold idsL
    rw [List.take_succ_eq_append_getElem c1, List.map_append, rd_T41_at l0 j c1]
    rfl
   have HS := Aside0.mk hs; have CJ := Aside0.mk c1; clear hs
   generalize rd_T41 l0 (j : Int) = x at hx0 hx1 hx2 hx3 HS
   go_wp2_with (first
    | ((with_reducible refine gate_builtin (b := .append) (xs := #[.tmp 12, .tmp 15]) rfl ?_); at_builtin; refine append_int_dr (w0 := w) rfl (.tmp 12) (.tmp 15) 27 3 rfl Tryz.underlying27 info3 u3 (idsL (l0.take j)) x.f0 rfl (by first | (go_simp; done) | (go_simp; rfl)) ?aO ?aG ?aL ?_; (case aO => exact Kd.R_alloc HO.out _); (case aG => exact ⟨below_alloc HG.out.1 _, HG.out.2⟩); (case aL => have := HL.out; have := CJ.out; unfold idsL; simp; omega); intro v1 w1 ho hg; have HO2 := Aside0.mk ho; have HG2 := Aside0.mk hg; clear ho hg))
   go_roundg q
   case measure => omega
   case rel => exact ⟨j + 1, congrArg (Value.int .i64) (by have := CJ.out; have := HL.out; first | rfl | (unfold wrap64; omega) | omega), ⟨by have := HJ.out; omega⟩, ⟨by rw [HS.out]; exact HO2.out⟩, HG2⟩
/-- How lists of numbers compare. -/
def cmpL : List Int → List Int → Int
 | [], [] => 0
 | [], _ :: _ => -1
 | _ :: _, [] => 1
 | a :: ar, b :: bs => if a < b then -1 else if b < a then 1 else cmpL ar bs
theorem compare_loop (a b : List Int) (ha : a.length ≤ 1000000000) (hb : b.length ≤ 1000000000) (d : Nat) : ∀ (k i : Nat), i + d = a.length → d < k → slices_Compare_int_int.l0 k a b a (a.length : Int) (i : Int) = some (cmpL (a.drop i) (b.drop i)) := by
 induction d with
 | zero =>
  intro k i hi hk
  obtain ⟨k, rfl⟩ : ∃ m, k = m + 1 := ⟨k - 1, by omega⟩
  have c1 : ¬ (i : Int) < (a.length : Int) := by omega
  simp only [slices_Compare_int_int.l0, if_neg c1]
  rw [List.drop_of_length_le (l := a) (by omega)]
  by_cases h : (a.length : Int) < (b.length : Int)
  ·rw [if_pos h, List.drop_eq_getElem_cons (show i < b.length by omega)]
   rfl
  ·rw [if_neg h, List.drop_of_length_le (by omega)]
   rfl
 | succ d ih =>
  intro k i hi hk
  obtain ⟨k, rfl⟩ : ∃ m, k = m + 1 := ⟨k - 1, by omega⟩
  have ew : wrap64 ((i : Int) + 1) = ((i + 1 : Nat) : Int) := by unfold wrap64; omega
  have hai : i < a.length := by omega
  have c1 : (i : Int) < (a.length : Int) := by omega
  have c2 : 0 ≤ (i : Int) := by omega
  have ih := ih k (i + 1) (by omega) (by omega)
  have ea : rd a (i : Int) = a[i] := by simp [rd, hai]
  rw [List.drop_eq_getElem_cons hai]
  simp only [slices_Compare_int_int.l0, if_pos c1, if_pos c2, ew, ih]
  by_cases h : (i : Int) ≥ (b.length : Int)
  ·rw [if_pos h, List.drop_of_length_le (l := b) (by omega)]
   rfl
  ·have hbi : i < b.length := by omega
   have eb : rd b (i : Int) = b[i] := by simp [rd, hbi]
   have c3 : (i : Int) < (b.length : Int) := by omega
   rw [if_neg h, if_pos c3, List.drop_eq_getElem_cons hbi, ea, eb]
   simp only [cmp_Compare_int.f, cmp_isNaN_int.f, bne_self_eq_false, Option.bind_some, Bool.false_eq_true, if_false, cmpL]
   by_cases h1 : a[i] < b[i]
   ·simp [if_pos h1]
   ·rw [if_neg h1, if_neg h1]
    by_cases h2 : a[i] > b[i]
    ·rw [if_pos h2, if_pos h2]; simp
    ·rw [if_neg h2, if_neg h2]; simp
theorem compare_eq (a b : List Int) (ha : a.length ≤ 1000000000) (hb : b.length ≤ 1000000000) : slices_Compare_int_int.f (a.length + 1) a b = some (cmpL a b) := by
 have := compare_loop a b ha hb a.length (a.length + 1) 0 (by omega) (by omega)
 unfold slices_Compare_int_int.f
 simpa using this
set_option maxHeartbeats 4000000 in
set_option maxRecDepth 100000 in
theorem teamsCmp (A0 : Option Addr) (c0 : Nat) (l0 : List S41) (A1 : Option Addr) (c1 : Nat) (l1 : List S41) (w : World) (hr0 : Kd.C k41 w A0 l0.length l0) (hc0 : l0.length ≤ c0) (hl0 : l0.length ≤ 1000000) (hr1 : Kd.C k41 w A1 l1.length l1) (hc1 : l1.length ≤ c1) (hl1 : l1.length ≤ 1000000) :
  Calls Tryz.prog 63 #[.slice A0 l0.length c0, .slice A1 l1.length c1] w fun e w' => e = .returned (.int .i64 (cmpL (idsL l0) (idsL l1))) ∧ Gr w w' := by
 have HR0 := Aside0.mk hr0; have HC0 := Aside0.mk hc0; have HL0 := Aside0.mk hl0; have HR1 := Aside0.mk hr1; have HC1 := Aside0.mk hc1; have HL1 := Aside0.mk hl1
 have HE := Aside0.mk (compare_eq (idsL l0) (idsL l1) (by unfold idsL; simp; omega) (by unfold idsL; simp; omega))
 clear hr0 hc0 hl0 hr1 hc1 hl1
 have tok : True := trivial
 go_enter Tryz.func63, Tryz.ntmps63
 go_wp2_with (first
  | (go_at_call 37; have _t := tok; refine (idsOf_gr A0 c0 l0 _ HR0.out HC0.out HL0.out).mono ?_; rintro e w1 ⟨v, rfl, ho, hg⟩; obtain ⟨Av, cv, rfl, hcl, hC⟩ := Kd.R_reads ho; have HCV := Aside0.mk hC; have HCL := Aside0.mk hcl; have HG := Aside0.mk hg; clear ho hg hC hcl tok)
  | (go_at_call 37; refine (idsOf_gr A1 c1 l1 _ (Kd.C_below HR1.out HG.out.1) HC1.out HL1.out).mono ?_; rintro e w2 ⟨v, rfl, ho, hg⟩; obtain ⟨Aw, cw, rfl, hcl, hC⟩ := Kd.R_reads ho; have HCW := Aside0.mk hC; have HCM := Aside0.mk hcl; have HCV2 := Aside0.mk (Kd.C_below HCV.out hg.1); have HG2 := Aside0.mk (Gr.trans HG.out hg); clear ho hg hC hcl)
  | (go_at_call 64; refine (slices_Compare_int_int.calls _ Av cv (idsL l0) Aw cw (idsL l1) _ _ HCV2.out HCL.out HCW.out HCM.out HE.out).mono ?_; rintro e w3 ⟨rfl, ⟨nd, rfl⟩⟩))
 go_ret
 exact ⟨rfl, ⟨pw_below_drewN HG2.out.1 nd, Nat.le_trans HG2.out.2 (Nat.le_add_right _ _)⟩⟩
theorem cmpL_lt : ∀ a b : List Int, (cmpL a b < 0 ↔ lxL a b = true)
 | [], [] => by simp [cmpL, lxL]
 | [], _ :: _ => by simp [cmpL, lxL]
 | _ :: _, [] => by simp [cmpL, lxL]
 | a :: ar, b :: bs => by
  simp only [cmpL, lxL]
  by_cases h : a = b
  ·subst h
   rw [if_neg (Int.lt_irrefl _), if_neg (Int.lt_irrefl _), if_pos rfl]
   exact cmpL_lt ar bs
  ·rw [if_neg h]
   by_cases h1 : a < b
   ·simp [if_pos h1, h1]
   ·rw [if_neg h1, if_pos (show b < a by omega)]
    simp [h1]
section
open Go.Sort Go.Shelf Go.Proofs
/-- The teams in the order of their numbers. -/
def sortT (S : List (List S41)) : List (List S41) := S.mergeSort (fun x y => !lxL (idsL y) (idsL x))
theorem sortT_len (S : List (List S41)) : (sortT S).length = S.length := (List.mergeSort_perm S _).length_eq
set_option maxHeartbeats 1000000 in
theorem sort_calls {w0 W : World} (S : List (List S41)) (v : Value) (HO : Kd.S (Kd.slice 41 k41) 24 W w0.heap.size (fun _ => True) v S) (HB : Below w0.heap.size w0 W) (hnd : (S.map idsL).Nodup) (hS : ∀ M ∈ S, M.length ≤ 1000000) (hlen : S.length ≤ 1000000) :
  Calls Tryz.prog 62 #[v, .func (.func 63) #[] #[]] W fun e w' => e = .returned (.tuple #[]) ∧ Kd.S (Kd.slice 41 k41) 24 w' w0.heap.size (fun _ => True) v (sortT S) ∧ Below w0.heap.size w0 w' := by
 by_cases h0 : S.length = 0
 ·have e0 : S = [] := List.eq_nil_of_length_eq_zero h0
  subst e0
  obtain ⟨A, c, rfl, _, _⟩ := Kd.S_reads HO
  have hS := AnyF.slices_SortFunc_none (P := Tryz.prog) (ρ := Tryz.sortL_ren) { Tryz.sortL with } A c (.func (.func 63) #[] #[]) W
  change Calls Tryz.prog 62 _ _ _ at hS
  refine hS.mono ?_
  rintro e w' ⟨rfl, rfl⟩
  exact ⟨rfl, by simpa [sortT] using HO, HB⟩
 ·obtain ⟨g, cap, rfl, hbg, hgl, _⟩ := Kd.R_form (Kd.S_R HO) (by omega)
  have hz : S.zipIdx.length = S.length := List.length_zipIdx
  haveI : Inhabited (Fin S.zipIdx.length) := ⟨⟨0, by omega⟩⟩
  obtain ⟨enc, h1, h2, h3, h4⟩ := S_perm (d := Kd.slice 41 k41) rfl HO
  have key : ∀ i : Fin S.zipIdx.length, (S.zipIdx[i]).1 = S[i.val]'(by omega) := fun i => by simp
  have hlt : ∀ x y : Fin S.zipIdx.length, ltOf (fun x y : Fin S.zipIdx.length => cmpL (idsL (S.zipIdx[x]).1) (idsL (S.zipIdx[y]).1)) x y = lxL (idsL (S.zipIdx[x]).1) (idsL (S.zipIdx[y]).1) := by
   intro x y
   unfold ltOf
   rw [Bool.eq_iff_iff, decide_eq_true_eq]
   exact cmpL_lt _ _
  have hO : SWO (ltOf (fun x y : Fin S.zipIdx.length => cmpL (idsL (S.zipIdx[x]).1) (idsL (S.zipIdx[y]).1))) :=
   ⟨fun x => by rw [hlt]; exact lxL_irr _, fun x y z a b => by rw [hlt] at a b ⊢; exact lxL_trans _ _ _ a b, fun x y z a b => by rw [hlt] at a b ⊢; exact lxL_ntrans a b⟩
  have hT : ∀ x y : Fin S.zipIdx.length, ltOf (fun x y : Fin S.zipIdx.length => cmpL (idsL (S.zipIdx[x]).1) (idsL (S.zipIdx[y]).1)) x y = false → ltOf (fun x y : Fin S.zipIdx.length => cmpL (idsL (S.zipIdx[x]).1) (idsL (S.zipIdx[y]).1)) y x = false → x = y := by
   intro x y a b
   rw [hlt] at a b
   have e := lxL_total _ _ a b
   rw [key, key] at e
   apply Fin.ext
   have e2 : (S.map idsL)[x.val]'(by rw [List.length_map]; omega) = (S.map idsL)[y.val]'(by rw [List.length_map]; omega) := by rw [List.getElem_map, List.getElem_map]; exact e
   have i1 := hnd.idxOf_getElem x.val (by rw [List.length_map]; omega)
   have i2 := hnd.idxOf_getElem y.val (by rw [List.length_map]; omega)
   rw [e2] at i1
   exact i1.symm.trans i2
  have hcmp : CmpLays1 Tryz.prog 63 #[] enc (fun x y : Fin S.zipIdx.length => cmpL (idsL (S.zipIdx[x]).1) (idsL (S.zipIdx[y]).1)) g 0 (Array.finRange S.zipIdx.length).size W := by
   intro m os dk hs x y
   have mv : ∀ i : Fin S.zipIdx.length, ∃ A c, enc i = .slice A (S.zipIdx[i]).1.length c ∧ (S.zipIdx[i]).1.length ≤ c ∧ Kd.C k41 (sortWorld enc W g 0 m dk os) A (S.zipIdx[i]).1.length (S.zipIdx[i]).1 := by
    intro i
    have hM := Kd.M_step (w1 := sortWorld enc W g 0 m dk os) (h2 i) (fun k hk hl => sort_other enc W g m dk os k hl hk)
    obtain ⟨A, c, ec, hle, hC⟩ := (Kd.slice 41 k41).K_of_M hM
    exact ⟨A, c, by simpa using ec, hle, hC⟩
   obtain ⟨A0, c0, e0, l0, C0⟩ := mv x
   obtain ⟨A1, c1, e1, l1, C1⟩ := mv y
   have lx : ∀ i : Fin S.zipIdx.length, (S.zipIdx[i]).1.length ≤ 1000000 := fun i => by rw [key]; exact hS _ (List.getElem_mem _)
   have hc := teamsCmp A0 c0 _ A1 c1 _ (sortWorld enc W g 0 m dk os) C0 l0 (lx x) C1 l1 (lx y)
   rw [← e0, ← e1] at hc
   exact hc.mono fun e w' ⟨he, hg⟩ => ⟨he, hg.grow⟩
  have eg : ∀ args w, (callFunc 63 args).run Tryz.prog w = .ok (.enter 63 args) w := enters_of Tryz.func63 (by kernel_rfl) rfl
  have hC := Any.slices_SortFunc_total Tryz.sortL enc h1 (fun x y : Fin S.zipIdx.length => cmpL (idsL (S.zipIdx[x]).1) (idsL (S.zipIdx[y]).1)) hO 63 #[] g 0 cap (Array.finRange S.zipIdx.length) W eg hcmp h3 hgl (by simp; omega) hT
  change Calls Tryz.prog 62 _ _ _ at hC
  have hsz : (Array.finRange S.zipIdx.length).size = S.length := by simp
  rw [hsz] at hC
  refine hC.mono ?_
  rintro e w' ⟨rfl, n, os, rfl⟩
  have hp := List.mergeSort_perm (Array.finRange S.zipIdx.length).toList (fun x y => !(ltOf (fun x y : Fin S.zipIdx.length => cmpL (idsL (S.zipIdx[x]).1) (idsL (S.zipIdx[y]).1))) y x)
  have hnd2 : (Array.finRange S.zipIdx.length).toList.Nodup := by
   unfold List.Nodup
   rw [List.pairwise_iff_getElem]
   intro i j hi hj hij he
   have := congrArg Fin.val he
   simp at this
   omega
  have h5 := h4 n ((Array.finRange S.zipIdx.length).toList.mergeSort fun x y => !(ltOf (fun x y : Fin S.zipIdx.length => cmpL (idsL (S.zipIdx[x]).1) (idsL (S.zipIdx[y]).1))) y x).toArray os (by rw [List.size_toArray, hp.length_eq]; simp) (by simpa using hp.nodup_iff.mpr hnd2)
  refine ⟨rfl, ?_, below_sort enc g n _ os HB hbg⟩
  have ee : (((Array.finRange S.zipIdx.length).toList.mergeSort fun x y => !(ltOf (fun x y : Fin S.zipIdx.length => cmpL (idsL (S.zipIdx[x]).1) (idsL (S.zipIdx[y]).1))) y x).toArray.toList.map fun i => (S.zipIdx[i]).1) = sortT S := by
   unfold sortT
   rw [List.toList_toArray, List.map_mergeSort (s := fun x y => !lxL (idsL y) (idsL x)) (fun a _ b _ => by rw [hlt])]
   congr 1
   apply List.ext_getElem
   ·simp
   ·intro i h1 h2; simp
  rw [ee] at h5
  exact h5
end
/-! ### impl_teams_in: function 35 -/
mutual
def impl_teams_in.l0 : Nat → List (S41) → List (List (S41)) → Int → Int → Option ((List (List (S41))))
 | 0, _, _, _, _ => none
 | k + 1, x0, x3, x10, x11 => if x11 < x10 then (impl_teams_in.l1 k x0 x3 x11 ([] : List (S41)) x10 x11 x0 (x0.length : Int) 0) else (some x3)
def impl_teams_in.l1 : Nat → List (S41) → List (List (S41)) → Int → List (S41) → Int → Int → List (S41) → Int → Int → Option ((List (List (S41))))
 | 0, _, _, _, _, _, _, _, _, _ => none
 | k + 1, x0, x3, x4, x5, x10, x11, x14, x15, x16 => if x16 < x15 then (if 0 ≤ x16 then (if x16 < (x14.length : Int) then (if (Go.bits .and .i64 (shr .i64 x4 x16) 1) = 1 then (if x5.length < 3518437208883 then (impl_teams_in.l1 k x0 x3 x4 (x5 ++ [(⟨(rd_T41 x14 x16).f0, (rd_T41 x14 x16).f1, (rd_T41 x14 x16).f2, (rd_T41 x14 x16).f3⟩ : S41)]) x10 x11 x14 x15 (wrap64 (x16 + 1))) else (none)) else (impl_teams_in.l1 k x0 x3 x4 x5 x10 x11 x14 x15 (wrap64 (x16 + 1)))) else (none)) else (none)) else ((impl_areTeam.f k x5).bind fun t236 => (if t236 = true then (if x3.length < 5864062014805 then (impl_teams_in.l0 k x0 (x3 ++ [x5]) x10 (wrap64 (x11 + 1))) else (none)) else (impl_teams_in.l0 k x0 x3 x10 (wrap64 (x11 + 1)))))
end
def impl_teams_in.f (k : Nat) (l0 : List (S41)) : Option ((List (List (S41)))) := impl_teams_in.l0 k l0 ([] : List (List (S41))) (shl .i64 1 (l0.length : Int)) 0
def impl_teams.f (k : Nat) (l0 : List S41) : Option (List (List S41)) := (impl_teams_in.f k l0).bind fun S => if (S.map idsL).Nodup ∧ (∀ M ∈ S, M.length ≤ 1000000) ∧ S.length ≤ 1000000 then some (sortT S) else none
set_option maxHeartbeats 8000000 in
set_option maxRecDepth 100000 in
theorem impl_teams.calls (k : Nat) (A0 : Option Addr) (c0 : Nat) (l0 : List (S41)) (r : List (List (S41))) (w : World) (hr0 : Kd.C k41 w A0 l0.length l0) (hc0 : l0.length ≤ c0) (h : impl_teams.f k l0 = some r) :
  Calls Tryz.prog 35 #[.slice A0 l0.length c0] w fun e w' => ∃ v0_ : Value, e = .returned (v0_) ∧ Kd.S (Kd.slice 41 k41) 24 w' w.heap.size (fun _ => True) v0_ r ∧ Below w.heap.size w w' := by
 have hu41 := Tryz.underlying41; have HR0 := Aside0.mk hr0; have HC0 := Aside0.mk hc0; clear hr0 hc0
 have HB := Aside0.mk (Below.refl w.heap.size w)
 unfold impl_teams.f at h
 obtain ⟨S, hS, h⟩ := Option.bind_eq_some_iff.mp h
 split at h
 case isFalse => cases h
 rename_i hcond
 have HND := Aside0.mk hcond
 obtain rfl := Option.some.inj h
 clear h hcond
 have H : (impl_teams_in.l0 k l0 ([] : List (List (S41))) (shl .i64 1 (l0.length : Int)) 0) = some S := hS
 clear hS
 obtain ⟨ji2, hji2⟩ : ∃ j_ : Int, (shl .i64 1 (l0.length : Int)) = j_ := ⟨_, rfl⟩
 replace H : (impl_teams_in.l0 k l0 ([] : List (List (S41))) ji2 0) = some S := by first | (rw [hji2] at H; exact H) | (simp only [hji2] at H ⊢; exact H)
 have hji2_ : (IntKind.i64.wrap (1 * 2 ^ min (l0.length : Int).toNat 64)) = ji2 := hji2
 have hji2z : (l0.length : Int) ≤ 64 → (IntKind.i64.wrap (1 * 2 ^ (l0.length : Int).toNat)) = ji2 := shl_small hji2
 have hji2p : (IntKind.i64.wrap (1 * 2 ^ min l0.length 64)) = ji2 := hji2_
 have hji2q : (l0.length : Int) ≤ 64 → (IntKind.i64.wrap (1 * 2 ^ l0.length)) = ji2 := hji2z
 have hji2r : (IntKind.i64.wrap (2 ^ min l0.length 64)) = ji2 := by have h_ := hji2p; rw [Int.one_mul] at h_; exact h_
 have hji2s : (l0.length : Int) ≤ 64 → (IntKind.i64.wrap (2 ^ l0.length)) = ji2 := fun hle_ => by have h_ := hji2q hle_; rw [Int.one_mul] at h_; exact h_
 have hji2u : (IntKind.i64.wrap (2 ^ min (l0.length : Int).toNat 64)) = ji2 := by have h_ := hji2_; rw [Int.one_mul] at h_; exact h_
 have hji2v : (l0.length : Int) ≤ 64 → (IntKind.i64.wrap (2 ^ (l0.length : Int).toNat)) = ji2 := fun hle_ => by have h_ := hji2z hle_; rw [Int.one_mul] at h_; exact h_
 have hji2y : (wrap64 (1 * 2 ^ min (l0.length : Int).toNat 64)) = ji2 := (i64_w _).symm.trans hji2_
 have hji2x : (l0.length : Int) ≤ 64 → (wrap64 (1 * 2 ^ (l0.length : Int).toNat)) = ji2 := fun h_ => (i64_w _).symm.trans (hji2z h_)
 have H' := Aside0.mk H
 clear H
 go_enter Tryz.func35, Tryz.ntmps35
 go_wp2
 go_loopg [3, 11] k (fun kq v3 v11 w' => ∃ (x3_1 : List (List (S41))) (x11_1 : Int), v11 = .int .i64 x11_1 ∧ Aside0 (impl_teams_in.l0 kq l0 x3_1 ji2 x11_1 = some S) ∧ Aside0 (kq ≤ k) ∧ Aside0 (Kd.S (Kd.slice 41 k41) 24 w' w.heap.size (fun _ => True) v3 x3_1) ∧ Aside0 (Below w.heap.size w w'))
 case atStart => exact ⟨(([] : List (List (S41)))), (0), z2_, H', ⟨Nat.le_refl _⟩, ⟨by first | exact Kd.S_nil _ _ _ _ _ | exact Kd.N_nil _ _ _ _ _ | exact Kd.V_nil _ _ _ _ _ | exact Kd.Q_nil _ _ _ _ _ | exact Kd.R_nil _ _ _ _ _⟩, ⟨z5_⟩⟩
 case round =>
  clear H'
  obtain ⟨x3_1, x11_1, rfl, HA, HK1, HO_3, HB⟩ := hrel
  cases gk with
  | zero => exact absurd HA.out (by simp [impl_teams_in.l0])
  | succ k1 =>
   have H := HA.out; clear HA
   simp only [impl_teams_in.l0] at H
   by_cases c3 : x11_1 < ji2
   ·rw [if_pos c3] at H
    have c3b0 : decide (x11_1 < ji2) = true := decide_eq_true c3
    clear c3
    have H' := Aside0.mk H
    clear H
    go_wp2
    go_loopg [5, 16] k1 (fun kq v5 v16 w' => ∃ (x5_2 : List (S41)) (x16_2 : Int), v16 = .int .i64 x16_2 ∧ Aside0 (impl_teams_in.l1 kq l0 x3_1 x11_1 x5_2 ji2 x11_1 l0 (l0.length : Int) x16_2 = some S) ∧ Aside0 (kq ≤ k1) ∧ Aside0 (Kd.S (Kd.slice 41 k41) 24 w' w.heap.size (fun k_ => some k_ ≠ (v5 : Value).ownBlock) u3 x3_1) ∧ Aside0 (Kd.R k41 41 w' w.heap.size (fun _ => True) v5 x5_2) ∧ Aside0 (Below w.heap.size w w'))
    case atStart => exact ⟨(([] : List (S41))), (0), z2_, H', ⟨Nat.le_refl _⟩, ⟨by (with_reducible repeat (first | apply Kd.S_alloc | apply Kd.S_drewN | apply Kd.S_drew)); exact Kd.S_mono HO_3.out (fun _ hk => (by simp [Value.ownBlock]))⟩, ⟨z28_⟩, ⟨z5_⟩⟩
    case round =>
     clear H'
     (try clear c3); (try clear c3b0); obtain ⟨x5_2, x16_2, rfl, HA, HK2, HO_3, HO_5, HB⟩ := hrel
     cases gk with
     | zero => exact absurd HA.out (by simp [impl_teams_in.l1])
     | succ k2 =>
      have H := HA.out; clear HA
      simp only [impl_teams_in.l1] at H
      by_cases c4 : x16_2 < (l0.length : Int)
      ·rw [if_pos c4] at H
       have c4b0 : decide (x16_2 < (l0.length : Int)) = true := decide_eq_true c4
       clear c4
       by_cases c5 : 0 ≤ x16_2
       ·rw [if_pos c5] at H
        have c5b0 : decide (0 ≤ x16_2) = true := decide_eq_true c5
        clear c5
        by_cases c6 : x16_2 < (l0.length : Int)
        ·rw [if_pos c6] at H
         have c6b0 : decide (x16_2 < (l0.length : Int)) = true := decide_eq_true c6
         clear c6
         have c7b0 := eq_true (od_ : 0 ≤ x16_2)
         obtain ⟨ji8, hji8⟩ : ∃ j_ : Int, (shr .i64 x11_1 x16_2) = j_ := ⟨_, rfl⟩
         replace H : (if (Go.bits .and .i64 (ji8) 1) = 1 then (if x5_2.length < 3518437208883 then (impl_teams_in.l1 k2 l0 x3_1 x11_1 (x5_2 ++ [(⟨(rd_T41 l0 x16_2).f0, (rd_T41 l0 x16_2).f1, (rd_T41 l0 x16_2).f2, (rd_T41 l0 x16_2).f3⟩ : S41)]) ji2 x11_1 l0 (l0.length : Int) (wrap64 (x16_2 + 1))) else (none)) else (impl_teams_in.l1 k2 l0 x3_1 x11_1 x5_2 ji2 x11_1 l0 (l0.length : Int) (wrap64 (x16_2 + 1)))) = some S := by first | (rw [hji8] at H; exact H) | (simp only [hji8] at H ⊢; exact H)
         have hji8_ : (x11_1 / 2 ^ min x16_2.toNat 64) = ji8 := hji8
         have hji8z : x16_2 ≤ 64 → (x11_1 / 2 ^ x16_2.toNat) = ji8 := shr_small hji8
         by_cases c9 : (Go.bits .and .i64 (ji8) 1) = 1
         ·rw [if_pos c9] at H
          have c9b0 : ((Go.bits .and .i64 (ji8) 1) == 1) = true := beq_iff_eq.mpr c9
          have c9b1 : ((Go.bits .and .i64 (ji8) 1) != 1) = false := bne_eq_false_iff_eq.mpr c9
          clear c9
          by_cases c10 : x5_2.length < 3518437208883
          ·rw [if_pos c10] at H
           have LMc10 := Aside0.mk c10; clear c10
           obtain ⟨y233, hy233⟩ : ∃ y_ : List (S41), y_ = (x5_2 ++ [(⟨(rd_T41 l0 x16_2).f0, (rd_T41 l0 x16_2).f1, (rd_T41 l0 x16_2).f2, (rd_T41 l0 x16_2).f3⟩ : S41)]) := ⟨_, rfl⟩
           replace H : (impl_teams_in.l1 k2 l0 x3_1 x11_1 y233 ji2 x11_1 l0 (l0.length : Int) (wrap64 (x16_2 + 1))) = some S := by first | (rw [hy233]; with_reducible exact H) | (have H2_ := (Option.bind_some _ _).symm.trans H; rw [hy233]; with_reducible exact H2_) | (have H2_ := (Option.bind_some _ _).symm.trans H; with_reducible exact H2_) | with_reducible exact H | (rw [hy233]; exact H) | exact H
           have Ny233 := Aside0.mk hy233; clear hy233
           have H' := Aside0.mk H
           clear H
           have p231 : 0 ≤ (x16_2 : Int) := od_
           have q231 : x16_2 < (l0.length : Int) := od_
           obtain ⟨ad231, e231, hx231_0, hx231_1, hx231_2, hx231_3⟩ := at_T41 HR0.out x16_2 p231 q231
           cases e231
           replace hx231_0 := (HB.out.cell (World.block_lt_of_cell? w _ hx231_0)).trans hx231_0
           replace hx231_1 := (HB.out.cell (World.block_lt_of_cell? w _ hx231_1)).trans hx231_1
           replace hx231_2 := (HB.out.cell (World.block_lt_of_cell? w _ hx231_2)).trans hx231_2
           replace hx231_3 := (HB.out.cell (World.block_lt_of_cell? w _ hx231_3)).trans hx231_3
           replace p231 := eq_true p231
           replace q231 := eq_true q231
           go_wp2_with (first | ((with_reducible refine gate_dst (N := 7) rfl ?_); refine box_event ?hg (N := 7) ?hd (cs := #[.int .i64 0, .string (⟨#[]⟩ : ByteArray), .int .i64 0, .int .i64 0]) (t := 41) ?hr ?_; (case hd => rfl); (case hg => rfl); (case hr => first | (go_simp; done) | (go_simp; rfl)); intro gb232 hg w11 hbox hb; have n0_ := Aside0.mk (Kd.S_below (Kd.S_elderB z29_ gb232 (Nat.le_of_eq hg.symm)) hb); have n1_ := Aside0.mk (Kd.R_below (Kd.R_elderB (kr_ HO_5) gb232 (Nat.le_of_eq hg.symm)) hb); have n2_ := Aside0.mk (below_step bx_ hb); have n3_ := Aside0.mk (hbox); have n4_ := Aside0.mk ((by rw [hg]; exact (below_size bx_) : w.heap.size ≤ gb232)); have n5_ := Aside0.mk ((by rw [hg]; exact (below_size bx_) : w.heap.size ≤ gb232)); clear HO_3; clear HO_5; clear HB; have HO_3 := n0_; have HO_5 := n1_; have HB := n2_; have BK232 := n3_; have GW232 := n4_; have GE232 := n5_; clear n0_ n1_ n2_ n3_ n4_ n5_; clear hb hbox hg; have z12_0 : w11.cell? ⟨gb232, 0, none⟩ = some (.int .i64 0) := (blk_cell BK232.out 0).trans rfl; have z12_1 : w11.cell? ⟨gb232, 1, none⟩ = some (.string (⟨#[]⟩ : ByteArray)) := (blk_cell BK232.out 1).trans rfl; have z12_2 : w11.cell? ⟨gb232, 2, none⟩ = some (.int .i64 0) := (blk_cell BK232.out 2).trans rfl; have z12_3 : w11.cell? ⟨gb232, 3, none⟩ = some (.int .i64 0) := (blk_cell BK232.out 3).trans rfl; have y12_0 := blk_frozen BK232.out 0; have y12_1 := blk_frozen BK232.out 1; have y12_2 := blk_frozen BK232.out 2; have y12_3 := blk_frozen BK232.out 3) | ((with_reducible refine gate_builtin (b := .append) (xs := #[.tmp 26, .tmp 28]) rfl ?_); at_builtin; refine Kd.R_append k41 (w0 := w) w.heap.size rfl (.tmp 26) (.tmp 28) 24 41 (.agg #[(.int .i64 0), (.string ⟨#[]⟩), (.int .i64 0), (.int .i64 0)]) 40 rfl Tryz.underlying24 info41 rfl (by decide) (by omega) u5 x5_2 (⟨(rd_T41 l0 x16_2).f0, (rd_T41 l0 x16_2).f1, (rd_T41 l0 x16_2).f2, (rd_T41 l0 x16_2).f3⟩ : S41) [.int .i64 ((rd_T41 l0 x16_2).f0), .string ((rd_T41 l0 x16_2).f1), .int .i64 ((rd_T41 l0 x16_2).f2), .int .i64 ((rd_T41 l0 x16_2).f3)] (fun k_ => k_ ≠ gb232) (fun _ => False) rfl (by first | (go_simp; done) | (go_simp; rfl)) ?aP (fun _ hk => hk.elim) ?aF ?aO ?aB ?aS ?aL ?_; (case aP => exact k41_mkM _ _ _ (⟨(rd_T41 l0 x16_2).f0, (rd_T41 l0 x16_2).f1, (rd_T41 l0 x16_2).f2, (rd_T41 l0 x16_2).f3⟩ : S41)); (case aB => exact bx_); (case aF => exact (fun k_ hk => Kd.freshB (g := gb232) (o := .cells #[.int .i64 ((rd_T41 l0 x16_2).f0), .string ((rd_T41 l0 x16_2).f1), .int .i64 ((rd_T41 l0 x16_2).f2), .int .i64 ((rd_T41 l0 x16_2).f3)] 41 (0, 0)) z49_ k_ hk)); (case aO => exact (by (with_reducible repeat (first | apply Kd.R_alloc | apply Kd.R_drewN | apply Kd.R_drew)); exact Kd.R_mono (Kd.R_far (p := ⟨gb232, 3, none⟩) (Kd.R_far (p := ⟨gb232, 2, none⟩) (Kd.R_far (p := ⟨gb232, 1, none⟩) (Kd.R_far (p := ⟨gb232, 0, none⟩) (Kd.R_mono HO_5.out (fun k_ hk => (⟨hk, hk.2⟩ : _ ∧ k_ ≠ gb232))) (fun _ hk => hk.2) (.int .i64 ((rd_T41 l0 x16_2).f0))) (fun _ hk => hk.2) (.string ((rd_T41 l0 x16_2).f1))) (fun _ hk => hk.2) (.int .i64 ((rd_T41 l0 x16_2).f2))) (fun _ hk => hk.2) (.int .i64 ((rd_T41 l0 x16_2).f3))) (fun _ hk => hk.1.2))); (case aS => exact (below_size bx_)); (case aL => have := LMc10.out; omega); intro v234 w13 ho hb hg hat; rw [← Ny233.out] at ho; have n0_ := Aside0.mk (Kd.S_after (ok := (fun k_ => k_ ≠ gb232)) (by (with_reducible repeat (first | apply Kd.S_alloc | apply Kd.S_drewN | apply Kd.S_drew)); exact Kd.S_mono (Kd.S_far (p := ⟨gb232, 3, none⟩) (Kd.S_far (p := ⟨gb232, 2, none⟩) (Kd.S_far (p := ⟨gb232, 1, none⟩) (Kd.S_far (p := ⟨gb232, 0, none⟩) (Kd.S_mono HO_3.out (fun k_ hk => (⟨hk, hk.2⟩ : _ ∧ k_ ≠ gb232))) (fun _ hk => hk.2) (.int .i64 ((rd_T41 l0 x16_2).f0))) (fun _ hk => hk.2) (.string ((rd_T41 l0 x16_2).f1))) (fun _ hk => hk.2) (.int .i64 ((rd_T41 l0 x16_2).f2))) (fun _ hk => hk.2) (.int .i64 ((rd_T41 l0 x16_2).f3))) (fun _ hk => ⟨hk.1.2, hk.1.1⟩)) hg hat); have n1_ := Aside0.mk (blk_grown (g := gb232) (o := .cells #[.int .i64 ((rd_T41 l0 x16_2).f0), .string ((rd_T41 l0 x16_2).f1), .int .i64 ((rd_T41 l0 x16_2).f2), .int .i64 ((rd_T41 l0 x16_2).f3)] 41 (0, 0)) z49_ hg (Kd.R_away HO_5.out (fun _ hk => hk.2))); have n2_ := Aside0.mk (hb); have n3_ := Aside0.mk (ho); clear HO_3; clear BK232; clear HB; clear HO_5; have HO_3 := n0_; have BK232 := n1_; have HB := n2_; have HO235 := n3_; clear n0_ n1_ n2_ n3_; clear ho hb hg hat))
           go_roundg k2
           case measure => have := HK1.out; have := HK2.out; omega
           case rel => exact ⟨(y233), (wrap64 (x16_2 + 1)), z2_, H', ⟨by have := HK1.out; have := HK2.out; omega⟩, ⟨by (with_reducible repeat (first | apply Kd.S_alloc | apply Kd.S_drewN | apply Kd.S_drew)); exact Kd.S_mono HO_3.out (fun _ hk => hk.2)⟩, ⟨by (with_reducible repeat (first | apply Kd.R_alloc | apply Kd.R_drewN | apply Kd.R_drew)); exact Kd.R_mono HO235.out (fun _ hk => trivial)⟩, ⟨by repeat (first | (with_reducible first | exact HB.out | apply below_alloc | apply pw_below_drewN | apply below_drew1 | refine below_set ?_ GE232.out) | exact HB.out)⟩⟩
          ·rw [if_neg c10] at H
           exact absurd H (by simp)
         ·rw [if_neg c9] at H
          have c9b0 : ((Go.bits .and .i64 (ji8) 1) == 1) = false := beq_eq_false_iff_ne.mpr c9
          have c9b1 : ((Go.bits .and .i64 (ji8) 1) != 1) = true := bne_iff_ne.mpr c9
          have H' := Aside0.mk H
          clear H
          have p231 : 0 ≤ (x16_2 : Int) := od_
          have q231 : x16_2 < (l0.length : Int) := od_
          obtain ⟨ad231, e231, hx231_0, hx231_1, hx231_2, hx231_3⟩ := at_T41 HR0.out x16_2 p231 q231
          cases e231
          replace hx231_0 := (HB.out.cell (World.block_lt_of_cell? w _ hx231_0)).trans hx231_0
          replace hx231_1 := (HB.out.cell (World.block_lt_of_cell? w _ hx231_1)).trans hx231_1
          replace hx231_2 := (HB.out.cell (World.block_lt_of_cell? w _ hx231_2)).trans hx231_2
          replace hx231_3 := (HB.out.cell (World.block_lt_of_cell? w _ hx231_3)).trans hx231_3
          replace p231 := eq_true p231
          replace q231 := eq_true q231
          go_wp2_with (first | ((with_reducible refine gate_dst (N := 7) rfl ?_); refine box_event ?hg (N := 7) ?hd (cs := #[.int .i64 0, .string (⟨#[]⟩ : ByteArray), .int .i64 0, .int .i64 0]) (t := 41) ?hr ?_; (case hd => rfl); (case hg => rfl); (case hr => first | (go_simp; done) | (go_simp; rfl)); intro gb232 hg w14 hbox hb; have n0_ := Aside0.mk (Kd.S_below (Kd.S_elderB z29_ gb232 (Nat.le_of_eq hg.symm)) hb); have n1_ := Aside0.mk (Kd.R_below (Kd.R_elderB (kr_ HO_5) gb232 (Nat.le_of_eq hg.symm)) hb); have n2_ := Aside0.mk (below_step bx_ hb); have n3_ := Aside0.mk (hbox); have n4_ := Aside0.mk ((by rw [hg]; exact (below_size bx_) : w.heap.size ≤ gb232)); have n5_ := Aside0.mk ((by rw [hg]; exact (below_size bx_) : w.heap.size ≤ gb232)); clear HO_3; clear HO_5; clear HB; have HO_3 := n0_; have HO_5 := n1_; have HB := n2_; have BK232 := n3_; have GW232 := n4_; have GE232 := n5_; clear n0_ n1_ n2_ n3_ n4_ n5_; clear hb hbox hg; have z15_0 : w14.cell? ⟨gb232, 0, none⟩ = some (.int .i64 0) := (blk_cell BK232.out 0).trans rfl; have z15_1 : w14.cell? ⟨gb232, 1, none⟩ = some (.string (⟨#[]⟩ : ByteArray)) := (blk_cell BK232.out 1).trans rfl; have z15_2 : w14.cell? ⟨gb232, 2, none⟩ = some (.int .i64 0) := (blk_cell BK232.out 2).trans rfl; have z15_3 : w14.cell? ⟨gb232, 3, none⟩ = some (.int .i64 0) := (blk_cell BK232.out 3).trans rfl; have y15_0 := blk_frozen BK232.out 0; have y15_1 := blk_frozen BK232.out 1; have y15_2 := blk_frozen BK232.out 2; have y15_3 := blk_frozen BK232.out 3))
          go_roundg k2
          case measure => have := HK1.out; have := HK2.out; omega
          case rel => exact ⟨(x5_2), (wrap64 (x16_2 + 1)), z2_, H', ⟨by have := HK1.out; have := HK2.out; omega⟩, ⟨by (with_reducible repeat (first | apply Kd.S_alloc | apply Kd.S_drewN | apply Kd.S_drew)); exact Kd.S_mono (Kd.S_far (p := ⟨gb232, 3, none⟩) (Kd.S_far (p := ⟨gb232, 2, none⟩) (Kd.S_far (p := ⟨gb232, 1, none⟩) (Kd.S_far (p := ⟨gb232, 0, none⟩) (Kd.S_mono HO_3.out (fun k_ hk => (⟨hk, hk.2⟩ : _ ∧ k_ ≠ gb232))) (fun _ hk => hk.2) (.int .i64 ((rd_T41 l0 x16_2).f0))) (fun _ hk => hk.2) (.string ((rd_T41 l0 x16_2).f1))) (fun _ hk => hk.2) (.int .i64 ((rd_T41 l0 x16_2).f2))) (fun _ hk => hk.2) (.int .i64 ((rd_T41 l0 x16_2).f3))) (fun _ hk => hk.1.1)⟩, ⟨by (with_reducible repeat (first | apply Kd.R_alloc | apply Kd.R_drewN | apply Kd.R_drew)); exact Kd.R_mono (Kd.R_far (p := ⟨gb232, 3, none⟩) (Kd.R_far (p := ⟨gb232, 2, none⟩) (Kd.R_far (p := ⟨gb232, 1, none⟩) (Kd.R_far (p := ⟨gb232, 0, none⟩) (Kd.R_mono HO_5.out (fun k_ hk => (⟨hk, hk.2⟩ : _ ∧ k_ ≠ gb232))) (fun _ hk => hk.2) (.int .i64 ((rd_T41 l0 x16_2).f0))) (fun _ hk => hk.2) (.string ((rd_T41 l0 x16_2).f1))) (fun _ hk => hk.2) (.int .i64 ((rd_T41 l0 x16_2).f2))) (fun _ hk => hk.2) (.int .i64 ((rd_T41 l0 x16_2).f3))) (fun _ hk => trivial)⟩, ⟨by repeat (first | (with_reducible first | exact HB.out | apply below_alloc | apply pw_below_drewN | apply below_drew1 | refine below_set ?_ GE232.out) | exact HB.out)⟩⟩
        ·rw [if_neg c6] at H
         exact absurd H (by simp)
       ·rw [if_neg c5] at H
        exact absurd H (by simp)
      ·rw [if_neg c4] at H
       have c4b0 : decide (x16_2 < (l0.length : Int)) = false := decide_eq_false c4
       clear c4; replace H := Option.bind_eq_some_iff.mp H; obtain ⟨t236, A160, H⟩ := H
       replace H : (if t236 = true then (if x3_1.length < 5864062014805 then (impl_teams_in.l0 k2 l0 (x3_1 ++ [x5_2]) ji2 (wrap64 (x11_1 + 1))) else (none)) else (impl_teams_in.l0 k2 l0 x3_1 ji2 (wrap64 (x11_1 + 1)))) = some S := H
       have A16 := Aside0.mk A160; clear A160
       by_cases c17 : t236 = true
       ·subst c17
        have H1 : (if x3_1.length < 5864062014805 then (impl_teams_in.l0 k2 l0 (x3_1 ++ [x5_2]) ji2 (wrap64 (x11_1 + 1))) else (none)) = some S := by rw [if_pos rfl] at H; exact H
        clear H; have H := H1; clear H1
        by_cases c18 : x3_1.length < 5864062014805
        ·rw [if_pos c18] at H
         have LMc18 := Aside0.mk c18; clear c18
         obtain ⟨y237, hy237⟩ : ∃ y_ : List (List (S41)), y_ = (x3_1 ++ [x5_2]) := ⟨_, rfl⟩
         replace H : (impl_teams_in.l0 k2 l0 y237 ji2 (wrap64 (x11_1 + 1))) = some S := by first | (rw [hy237]; with_reducible exact H) | (have H2_ := (Option.bind_some _ _).symm.trans H; rw [hy237]; with_reducible exact H2_) | (have H2_ := (Option.bind_some _ _).symm.trans H; with_reducible exact H2_) | with_reducible exact H | (rw [hy237]; exact H) | exact H
         have Ny237 := Aside0.mk hy237; clear hy237
         have H' := Aside0.mk H
         clear H
         obtain ⟨Ao19, co19, eo19⟩ := Kd.R_slice HO_5.out
         subst eo19
         go_wp2_with (first | ((with_reducible refine gate_callee (f := 45) rfl ?_); refine goesL_ (some 32) rfl rfl Tryz.func45 (by kernel_rfl) rfl #[.slice Ao19 x5_2.length co19] rfl gl_ ?_; (with_reducible refine (impl_areTeam.calls k2 _ _ x5_2 true _ ?side1 ?side2 A16.out).mono ?_); (case side1 => exact z50_); (case side2 => exact (Kd.R_reads' HO_5.out).2.1); rintro e w20 ⟨rfl, hb⟩; refine ⟨_, rfl, ?_⟩; have n0_ := Aside0.mk (Kd.S_below z29_ hb); have n1_ := Aside0.mk (Kd.R_below (kr_ HO_5) hb); have n2_ := Aside0.mk (below_step bx_ hb); clear HO_3; clear HO_5; clear HB; have HO_3 := n0_; have HO_5 := n1_; have HB := n2_; clear n0_ n1_ n2_; (try clear hb); (try clear hk); (try clear hi)) | ((with_reducible refine gate_builtin (b := .append) (xs := #[.tmp 33, .tmp 35]) rfl ?_); at_builtin; refine Kd.S_append (Kd.slice 41 k41) (w0 := w) w.heap.size rfl (.tmp 33) (.tmp 35) 55 24 (.slice none 0 0) 24 rfl Tryz.underlying55 info24 rfl (by decide) (by omega) u3 x3_1 x5_2 [.slice Ao19 x5_2.length co19] (fun _ => True) (fun k_ => some k_ = (.slice Ao19 x5_2.length co19 : Value).ownBlock) rfl rfl ?aP (fun k_ hk_ => ((Kd.R_mono (ok' := fun k_ => ((fun _ => True)) k_ ∧ some k_ ≠ (u3 : Value).ownBlock) (Kd.R_apart' (HO_5.out) (Kd.S_typed HO_3.out) (by decide)) (fun k_ hk => ⟨trivial, hk.2⟩))).1 k_ hk_.symm) ?aF ?aO ?aB ?aS ?aL ?_; (case aP => exact Kd.M_row (Kd.R_mono (Kd.R_tight rfl (Kd.R_mono (ok' := fun k_ => ((fun _ => True)) k_ ∧ some k_ ≠ (u3 : Value).ownBlock) (Kd.R_apart' (HO_5.out) (Kd.S_typed HO_3.out) (by decide)) (fun k_ hk => ⟨trivial, hk.2⟩))) (fun _ h_ => h_))); (case aB => exact bx_); (case aF => exact (fun _ _ => trivial)); (case aO => exact (by (with_reducible repeat (first | apply Kd.S_alloc | apply Kd.S_drewN | apply Kd.S_drew)); exact Kd.S_mono HO_3.out (fun k_ hk => ⟨trivial, fun e_ => hk e_⟩))); (case aS => exact (below_size bx_)); (case aL => have := LMc18.out; omega); intro v238 w21 ho hb hg hat; rw [← Ny237.out] at ho; have n0_ := Aside0.mk (hb); have n1_ := Aside0.mk (ho); clear HB; clear HO_3; clear HO_5; have HB := n0_; have HO239 := n1_; clear n0_ n1_; clear ho hb hg hat))
         go_roundg k2
         case measure => have := HK1.out; have := HK2.out; omega
         case rel => exact ⟨(y237), (wrap64 (x11_1 + 1)), z2_, H', ⟨by have := HK1.out; have := HK2.out; omega⟩, ⟨by (with_reducible repeat (first | apply Kd.S_alloc | apply Kd.S_drewN | apply Kd.S_drew)); exact HO239.out⟩, ⟨z5_⟩⟩
        ·rw [if_neg c18] at H
         exact absurd H (by simp)
       ·replace c17 := Bool.eq_false_iff.mpr c17
        subst c17
        have H1 : (impl_teams_in.l0 k2 l0 x3_1 ji2 (wrap64 (x11_1 + 1))) = some S := by rw [if_neg (show ¬ (false = true) by decide)] at H; exact H
        clear H; have H := H1; clear H1
        have H' := Aside0.mk H
        clear H
        obtain ⟨Ao22, co22, eo22⟩ := Kd.R_slice HO_5.out
        subst eo22
        go_wp2_with (first | ((with_reducible refine gate_callee (f := 45) rfl ?_); refine goesL_ (some 32) rfl rfl Tryz.func45 (by kernel_rfl) rfl #[.slice Ao22 x5_2.length co22] rfl gl_ ?_; (with_reducible refine (impl_areTeam.calls k2 _ _ x5_2 false _ ?side1 ?side2 A16.out).mono ?_); (case side1 => exact z50_); (case side2 => exact (Kd.R_reads' HO_5.out).2.1); rintro e w23 ⟨rfl, hb⟩; refine ⟨_, rfl, ?_⟩; have n0_ := Aside0.mk (Kd.S_below z29_ hb); have n1_ := Aside0.mk (Kd.R_below (kr_ HO_5) hb); have n2_ := Aside0.mk (below_step bx_ hb); clear HO_3; clear HO_5; clear HB; have HO_3 := n0_; have HO_5 := n1_; have HB := n2_; clear n0_ n1_ n2_; (try clear hb); (try clear hk); (try clear hi)))
        go_roundg k2
        case measure => have := HK1.out; have := HK2.out; omega
        case rel => exact ⟨(x3_1), (wrap64 (x11_1 + 1)), z2_, H', ⟨by have := HK1.out; have := HK2.out; omega⟩, ⟨by (with_reducible repeat (first | apply Kd.S_alloc | apply Kd.S_drewN | apply Kd.S_drew)); exact Kd.S_mono HO_3.out (fun _ hk => trivial)⟩, ⟨z5_⟩⟩
   ·rw [if_neg c3] at H
    have c3b0 : decide (x11_1 < ji2) = false := decide_eq_false c3
    clear c3
    obtain rfl := Option.some.inj H
    go_wp2_with (first | (go_at_call 62; refine (sort_calls (w0 := w) _ _ z29_ HB.out HND.out.1 HND.out.2.1 HND.out.2.2).mono ?_; rintro e w9 ⟨rfl, ho, hb⟩; have HO9 := Aside0.mk ho; have HB9 := Aside0.mk hb; clear ho hb))
    go_ret
    exact ⟨_, rfl, HO9.out, HB9.out⟩


/-! ### impl_skills: function 36 -/
def impl_skills.l0 : Nat → Int → Int → List (S41) → Int → Int → Option (Int × Int)
 | 0, _, _, _, _, _ => none
 | k + 1, x4, x5, x8, x9, x10 => if x10 < x9 then (if 0 ≤ x10 then (if x10 < (x8.length : Int) then (impl_skills.l0 k (Go.bits .or .i64 x4 ((rd_T41 x8 x10).f2)) (wrap64 (x5 + ((rd_T41 x8 x10).f3))) x8 x9 (wrap64 (x10 + 1))) else (none)) else (none)) else (some (x4, x5))
def impl_skills.f (k : Nat) (l0 : List (S41)) : Option (Int × Int) := impl_skills.l0 k 0 0 l0 (l0.length : Int) 0
set_option maxHeartbeats 8000000 in
set_option maxRecDepth 100000 in
theorem impl_skills.calls (k : Nat) (A0 : Option Addr) (c0 : Nat) (l0 : List (S41)) (r1 : Int) (r2 : Int) (w : World) (hr0 : Kd.C k41 w A0 l0.length l0) (hc0 : l0.length ≤ c0) (h : impl_skills.f k l0 = some (r1, r2)) :
  Calls Tryz.prog 36 #[.slice A0 l0.length c0] w fun e w' => e = .returned (.tuple #[.int .i64 r1, .int .i64 r2]) ∧ Below w.heap.size w w' := by
 have hu41 := Tryz.underlying41; have HR0 := Aside0.mk hr0; have HC0 := Aside0.mk hc0; clear hr0 hc0
 have HB := Aside0.mk (Below.refl w.heap.size w)
 have H : (impl_skills.l0 k 0 0 l0 (l0.length : Int) 0) = some (r1, r2) := h
 clear h
 have H' := Aside0.mk H
 clear H
 go_enter Tryz.func36, Tryz.ntmps36
 go_wp2
 go_loopg [4, 5, 10] k (fun kq v4 v5 v10 w' => ∃ (x4_1 : Int) (x5_1 : Int) (x10_1 : Int), v4 = .int .i64 x4_1 ∧ v5 = .int .i64 x5_1 ∧ v10 = .int .i64 x10_1 ∧ Aside0 (impl_skills.l0 kq x4_1 x5_1 l0 (l0.length : Int) x10_1 = some (r1, r2)) ∧ Aside0 (kq ≤ k) ∧ Aside0 (Below w.heap.size w w'))
 case atStart => exact ⟨(0), (0), (0), z2_, z2_, z2_, H', ⟨Nat.le_refl _⟩, ⟨z5_⟩⟩
 case round =>
  clear H'
  obtain ⟨x4_1, x5_1, x10_1, rfl, rfl, rfl, HA, HK1, HB⟩ := hrel
  cases gk with
  | zero => exact absurd HA.out (by simp [impl_skills.l0])
  | succ k1 =>
   have H := HA.out; clear HA
   simp only [impl_skills.l0] at H
   by_cases c2 : x10_1 < (l0.length : Int)
   ·rw [if_pos c2] at H
    have c2b0 : decide (x10_1 < (l0.length : Int)) = true := decide_eq_true c2
    clear c2
    by_cases c3 : 0 ≤ x10_1
    ·rw [if_pos c3] at H
     have c3b0 : decide (0 ≤ x10_1) = true := decide_eq_true c3
     clear c3
     by_cases c4 : x10_1 < (l0.length : Int)
     ·rw [if_pos c4] at H
      have c4b0 : decide (x10_1 < (l0.length : Int)) = true := decide_eq_true c4
      clear c4
      have H' := Aside0.mk H
      clear H
      have p240 : 0 ≤ (x10_1 : Int) := od_
      have q240 : x10_1 < (l0.length : Int) := od_
      obtain ⟨ad240, e240, hx240_0, hx240_1, hx240_2, hx240_3⟩ := at_T41 HR0.out x10_1 p240 q240
      cases e240
      replace hx240_0 := (HB.out.cell (World.block_lt_of_cell? w _ hx240_0)).trans hx240_0
      replace hx240_1 := (HB.out.cell (World.block_lt_of_cell? w _ hx240_1)).trans hx240_1
      replace hx240_2 := (HB.out.cell (World.block_lt_of_cell? w _ hx240_2)).trans hx240_2
      replace hx240_3 := (HB.out.cell (World.block_lt_of_cell? w _ hx240_3)).trans hx240_3
      replace p240 := eq_true p240
      replace q240 := eq_true q240
      go_wp2_with (first | ((with_reducible refine gate_dst (N := 7) rfl ?_); refine box_event ?hg (N := 7) ?hd (cs := #[.int .i64 0, .string (⟨#[]⟩ : ByteArray), .int .i64 0, .int .i64 0]) (t := 41) ?hr ?_; (case hd => rfl); (case hg => rfl); (case hr => first | (go_simp; done) | (go_simp; rfl)); intro gb241 hg w5 hbox hb; have n0_ := Aside0.mk (below_step bx_ hb); have n1_ := Aside0.mk (hbox); have n2_ := Aside0.mk ((by rw [hg]; exact (below_size bx_) : w.heap.size ≤ gb241)); have n3_ := Aside0.mk ((by rw [hg]; exact (below_size bx_) : w.heap.size ≤ gb241)); clear HB; have HB := n0_; have BK241 := n1_; have GW241 := n2_; have GE241 := n3_; clear n0_ n1_ n2_ n3_; clear hb hbox hg; have z6_0 : w5.cell? ⟨gb241, 0, none⟩ = some (.int .i64 0) := (blk_cell BK241.out 0).trans rfl; have z6_1 : w5.cell? ⟨gb241, 1, none⟩ = some (.string (⟨#[]⟩ : ByteArray)) := (blk_cell BK241.out 1).trans rfl; have z6_2 : w5.cell? ⟨gb241, 2, none⟩ = some (.int .i64 0) := (blk_cell BK241.out 2).trans rfl; have z6_3 : w5.cell? ⟨gb241, 3, none⟩ = some (.int .i64 0) := (blk_cell BK241.out 3).trans rfl; have y6_0 := blk_frozen BK241.out 0; have y6_1 := blk_frozen BK241.out 1; have y6_2 := blk_frozen BK241.out 2; have y6_3 := blk_frozen BK241.out 3))
      go_roundg k1
      case measure => have := HK1.out; omega
      case rel => exact ⟨(Go.bits .or .i64 x4_1 ((rd_T41 l0 x10_1).f2)), (wrap64 (x5_1 + ((rd_T41 l0 x10_1).f3))), (wrap64 (x10_1 + 1)), z2_, z2_, z2_, H', ⟨by have := HK1.out; omega⟩, ⟨by repeat (first | (with_reducible first | exact HB.out | apply below_alloc | apply pw_below_drewN | apply below_drew1 | refine below_set ?_ GE241.out) | exact HB.out)⟩⟩
     ·rw [if_neg c4] at H
      exact absurd H (by simp)
    ·rw [if_neg c3] at H
     exact absurd H (by simp)
   ·rw [if_neg c2] at H
    have c2b0 : decide (x10_1 < (l0.length : Int)) = false := decide_eq_false c2
    clear c2
    simp only [Option.some.injEq, Prod.mk.injEq] at H
    obtain ⟨rfl, rfl⟩ := H
    go_wp2
    go_ret2
    exact ⟨z6_, z5_⟩

end Go.Proofs.YtafdklajmklmkaaGreatDoor.XFnTeams
