/- Contracts of the functions that the law FnExactErrorOf comes to: each is told as a plain function of its arguments, and the machine's call does what that function says; no condition. Written by programs (print.py, xprint.py); Lean checks it. -/
import Derived.Test.YtjcmolbaanedaaaDoorXFnExactErrorOfx0
namespace Go.Proofs.YtjcmolbaanedaaaDoor.XFnExactErrorOf
open Go.RowKit Go.Proofs.YtjcmolbaanedaaaDoorW.PrintWords Go.Proofs.YtjcmolbaanedaaaDoorW.PrintLast Go.Proofs.YtjcmolbaanedaaaDoorW.PrintMore
attribute [local go_sem] max2_int min2_int max_two min_two max_three min_three max_four min_four   -- for this text's walks alone
set_option linter.unusedVariables false
set_option linter.unusedSimpArgs false

/-! ### spec_l1Has: function 72 -/
def spec_l1Has.l0 : Nat → List Int → Int → Int → Option (Bool)
  | 0, _, _, _ => none
  | k + 1, x0, x1, x5 => if x5 < (x0.length : Int) then (if 0 ≤ x5 then (if (rd x0 x5) = x1 then (some true) else (spec_l1Has.l0 k x0 x1 (wrap64 (x5 + 1)))) else (none)) else (some false)
def spec_l1Has.f (k : Nat) (l0 : List Int) (a1 : Int) : Option (Bool) := spec_l1Has.l0 k l0 a1 0
theorem spec_l1Has.mono_l : ∀ k, (∀ y0 y1 y2, LeO (spec_l1Has.l0 k y0 y1 y2) (spec_l1Has.l0 (k + 1) y0 y1 y2))
  | 0 => fun _ _ _ r h => by simp [spec_l1Has.l0] at h
  | k + 1 => by
    have ih0 := spec_l1Has.mono_l k
    · intro y0 y1 y2
      unfold spec_l1Has.l0
      repeat' first
      | (with_reducible exact ih0 _ _ _)
      | (with_reducible exact LeO.refl _)
      | (with_reducible exact LeO.none _)
      | (with_reducible refine LeO.ite ?_ ?_)
      | (with_reducible refine LeO.bind ?_ (fun _ => ?_))
      | exact ih0 _ _ _
      | exact LeO.none _
      | refine LeO.ite ?_ ?_
      | refine LeO.bind ?_ (fun _ => ?_)
theorem spec_l1Has.mono : ∀ a0 a1 k, LeO (spec_l1Has.f k a0 a1) (spec_l1Has.f (k + 1) a0 a1) := by
  intro a0 a1 k
  have ih0 := spec_l1Has.mono_l k
  unfold spec_l1Has.f
  repeat' first
      | (with_reducible exact ih0 _ _ _)
      | (with_reducible exact LeO.refl _)
      | (with_reducible exact LeO.none _)
      | (with_reducible refine LeO.ite ?_ ?_)
      | (with_reducible refine LeO.bind ?_ (fun _ => ?_))
      | exact ih0 _ _ _
      | exact LeO.none _
      | refine LeO.ite ?_ ?_
      | refine LeO.bind ?_ (fun _ => ?_)
set_option maxHeartbeats 8000000 in
set_option maxRecDepth 100000 in
theorem spec_l1Has.calls (k : Nat) (A0 : Option Addr) (c0 : Nat) (l0 : List Int) (a1 : Int) (r : Bool) (w : World) (hr0 : Kd.C (Kd.int .i64) w A0 l0.length l0) (hc0 : l0.length ≤ c0) (h : spec_l1Has.f k l0 a1 = some r) :
    Calls Tryd.prog 72 #[.slice A0 l0.length c0, .int .i64 a1] w fun e w' => e = .returned (.bool r) ∧ Drawn0 w w' := by
  have HR0 := Aside0.mk hr0
  have HC0 := Aside0.mk hc0
  clear hr0 hc0
  have H : (spec_l1Has.l0 k l0 a1 0) = some r := h
  clear h
  have H' := Aside0.mk H
  clear H
  go_enter Tryd.func72, Tryd.ntmps72
  go_wp2
  go_loopg [5] k (fun kq v5 w' => ∃ (x5_1 : Int), v5 = .int .i64 x5_1 ∧ Aside0 (spec_l1Has.l0 kq l0 a1 x5_1 = some r) ∧ Aside0 (kq ≤ k) ∧ Drawn0 w w')
  case atStart => exact ⟨(0), (by first | rfl | (simp; done) | (simp [*]; done)), H', ⟨Nat.le_refl _⟩, by repeat (first | exact Drawn0.refl _ | apply Drawn0.step)⟩
  case round =>
    clear H'
    try clear p2
    obtain ⟨x5_1, rfl, HA, HK1, ⟨m1, rfl⟩⟩ := hrel
    cases gk with
    | zero => exact absurd HA.out (by simp [spec_l1Has.l0])
    | succ k1 =>
      have H := HA.out
      clear HA
      simp only [spec_l1Has.l0] at H
      by_cases c3 : x5_1 < (l0.length : Int)
      · rw [if_pos c3] at H
        have c3b0 : decide (x5_1 < (l0.length : Int)) = true := decide_eq_true c3
        clear c3
        by_cases c4 : 0 ≤ x5_1
        · rw [if_pos c4] at H
          have c4b0 : decide (0 ≤ x5_1) = true := decide_eq_true c4
          clear c4
          by_cases c5 : (rd l0 x5_1) = a1
          · rw [if_pos c5] at H
            have c5b0 : ((rd l0 x5_1) == a1) = true := beq_iff_eq.mpr c5
            have c5b1 : ((rd l0 x5_1) != a1) = false := bne_eq_false_iff_eq.mpr c5
            clear c5
            obtain rfl := Option.some.inj H
            have p164 : 0 ≤ (x5_1 : Int) := of_decide_eq_true (by first | (with_reducible assumption) | assumption)
            have q164 : x5_1 < (l0.length : Int) := of_decide_eq_true (by first | (with_reducible assumption) | assumption)
            obtain ⟨ad164, e164, hx164_0⟩ := Kd.at_int HR0.out x5_1 p164 q164
            cases e164
            replace p164 := eq_true p164
            replace q164 := eq_true q164
            go_wp2
            go_ret
            exact ⟨by first | rfl | (simp; done) | (simp [*]; done), by repeat (first | exact Drawn0.refl _ | apply Drawn0.step)⟩
          · rw [if_neg c5] at H
            have c5b0 : ((rd l0 x5_1) == a1) = false := beq_eq_false_iff_ne.mpr c5
            have c5b1 : ((rd l0 x5_1) != a1) = true := bne_iff_ne.mpr c5
            have H' := Aside0.mk H
            clear H
            have p164 : 0 ≤ (x5_1 : Int) := of_decide_eq_true (by first | (with_reducible assumption) | assumption)
            have q164 : x5_1 < (l0.length : Int) := of_decide_eq_true (by first | (with_reducible assumption) | assumption)
            obtain ⟨ad164, e164, hx164_0⟩ := Kd.at_int HR0.out x5_1 p164 q164
            cases e164
            replace p164 := eq_true p164
            replace q164 := eq_true q164
            go_wp2
            go_roundg k1
            case measure => have := HK1.out; omega
            case rel => exact ⟨(wrap64 (x5_1 + 1)), (by first | rfl | (simp; done) | (simp [*]; done)), H', ⟨by have := HK1.out; omega⟩, by repeat (first | exact Drawn0.refl _ | apply Drawn0.step)⟩
        · rw [if_neg c4] at H
          exact absurd H (by simp)
      · rw [if_neg c3] at H
        have c3b0 : decide (x5_1 < (l0.length : Int)) = false := decide_eq_false c3
        clear c3
        obtain rfl := Option.some.inj H
        go_wp2
        go_ret
        exact ⟨by first | rfl | (simp; done) | (simp [*]; done), by repeat (first | exact Drawn0.refl _ | apply Drawn0.step)⟩

/-! ### spec_l1Put: function 73 (by hand) -/
/-- A number put to its place. -/
def putIn : List Int → Int → List Int
  | [], n => [n]
  | x :: xs, n => if x < n then x :: putIn xs n else n :: x :: xs
def spec_l1Put.f (l0 : List Int) (a1 : Int) : Option (List Int) := if l0.length ≤ 1000000 ∧ a1 ∉ l0 then some (putIn l0 a1) else none
theorem putIn_eq : ∀ (l : List Int) (n : Int) (j : Nat), j ≤ l.length → (∀ x ∈ l.take j, x < n) → (∀ x, l[j]? = some x → ¬ x < n) → putIn l n = l.take j ++ [n] ++ l.drop j
  | [], n, j, hj, _, _ => by
    obtain rfl : j = 0 := by simpa using hj
    rfl
  | x :: xs, n, 0, _, _, h => by
    have := h x rfl
    simp [putIn, this]
  | x :: xs, n, j + 1, hj, hl, h => by
    have h0 : x < n := hl x (by simp)
    have := putIn_eq xs n j (by simpa using hj) (fun y hy => hl y (by simp [hy])) (fun y hy => h y (by simpa using hy))
    simp [putIn, h0, this]
theorem row_of {e : Nat} {w : World} {base : Nat} {ok : Nat → Prop} {A : Option Addr} {n c : Nat} {xs : List Int} (h : Kd.R (Kd.int .i64) e w base ok (.slice A n c) xs) : ReadsRow ((Kd.int .i64).K w) 1 w A n xs := by
  obtain ⟨A', c', e1, _, h2⟩ := Kd.R_reads h
  injection e1 with e1 e2 e3
  subst e1 e2
  exact h2
theorem lit0_R (W : World) (base : Nat) (hb : base ≤ W.heap.size) (g : Nat) (hg : W.heap.size = g) : Kd.R (Kd.int .i64) 3 (W.alloc (.cells #[] 3)) base (fun k => k = g) (.slice (some ⟨g, 0, none⟩) 0 0) [] := by
  subst hg
  exact Kd.R_of_own (own_lit W base 3 .i64 [] hb (by decide)) (fun k hk => by simpa [Value.ownBlock] using hk.symm)
theorem lit1_R (W : World) (x : Int) (base : Nat) (hb : base ≤ W.heap.size) (g : Nat) (hg : W.heap.size = g) : Kd.R (Kd.int .i64) 3 (W.alloc (.cells #[.int .i64 x] 3)) base (fun k => k = g) (.slice (some ⟨g, 0, none⟩) 1 1) [x] := by
  subst hg
  exact Kd.R_of_own (own_lit W base 3 .i64 [x] hb (show 1 ≤ _ by decide)) (fun k hk => by simpa [Value.ownBlock] using hk.symm)
set_option maxHeartbeats 8000000 in
set_option maxRecDepth 100000 in
theorem spec_l1Put.calls (A0 : Option Addr) (c0 : Nat) (l0 : List Int) (a1 : Int) (r : List Int) (w : World) (hr0 : Kd.C (Kd.int .i64) w A0 l0.length l0) (hc0 : l0.length ≤ c0) (h : spec_l1Put.f l0 a1 = some r) :
    Calls Tryd.prog 73 #[.slice A0 l0.length c0, .int .i64 a1] w fun e w' => ∃ v0_ : Value, e = .returned (v0_) ∧ Kd.R (Kd.int .i64) 3 w' w.heap.size (fun _ => True) v0_ r ∧ Below w.heap.size w w' := by
  unfold spec_l1Put.f at h
  split at h
  case isFalse => cases h
  rename_i hb
  obtain rfl := Option.some.inj h
  clear h
  have HLe := Aside0.mk hb.1
  have HNi := Aside0.mk hb.2
  clear hb
  have HR0 := Aside0.mk hr0
  have HC0 := Aside0.mk hc0
  clear hr0 hc0
  have HB := Aside0.mk (Below.refl w.heap.size w)
  go_enter Tryd.func73, Tryd.ntmps73
  go_wp2
  go_loopg [5] l0.length (fun kq v5 w' => ∃ j : Nat, v5 = .int .i64 j ∧ Aside0 (kq + j = l0.length) ∧ Aside0 (∀ x ∈ l0.take j, x < a1) ∧ Aside0 (Below w.heap.size w w'))
  case atStart => exact ⟨0, rfl, ⟨rfl⟩, ⟨fun x hx => by simp at hx⟩, HB⟩
  case round =>
    obtain ⟨j, rfl, HJ, HA, HB⟩ := hrel
    cases gk with
    | succ k1 =>
      have c1 : j < l0.length := by have := HJ.out; omega
      obtain ⟨ad, e1, hx⟩ := Kd.at_int HR0.out (j : Int) (by omega) (by omega)
      cases e1
      rw [Int.toNat_natCast] at hx
      replace hx := pw_cell_below HB.out hx
      have hrd : rd l0 (j : Int) = l0.getD j 0 := by simp [rd]
      have hge : l0[j] = l0.getD j 0 := by simp [c1]
      have c1n : decide (j < l0.length) = true := decide_eq_true c1
      have c1b : decide ((j : Int) < (l0.length : Int)) = true := decide_eq_true (by omega)
      by_cases c2 : rd l0 (j : Int) < a1
      · have c2b : decide (rd l0 (j : Int) < a1) = true := decide_eq_true c2
        have CB := Aside0.mk c1
        have C2 := Aside0.mk c2
        have HRD := Aside0.mk hrd
        clear c2 hrd hge
        go_wp2
        go_roundg k1
        case measure => omega
        case rel => 
          have q := CB.out
          have ql := HLe.out
          refine ⟨j + 1, ?_, ⟨by have := HJ.out; omega⟩, ⟨fun x hx => ?_⟩, ⟨HB.out⟩⟩
          · exact congrArg (Value.int .i64) (by first | (unfold wrap64; omega) | omega)
          · rw [List.take_succ_eq_append_getElem q] at hx
            rcases List.mem_append.mp hx with hx | hx
            · exact HA.out x hx
            · rw [List.mem_singleton] at hx
              have := C2.out
              rw [HRD.out] at this
              simpa [hx, List.getD, q] using this
      · have c2b : decide (rd l0 (j : Int) < a1) = false := decide_eq_false c2
        have c3 : ¬ rd l0 (j : Int) = a1 := fun z => HNi.out (by rw [← z, hrd, ← hge]; exact List.getElem_mem c1)
        have c3b : (rd l0 (j : Int) == a1) = false := beq_eq_false_iff_ne.mpr c3
        have PE := Aside0.mk (putIn_eq l0 a1 j (by omega) HA.out (fun x hx => by rw [List.getElem?_eq_getElem c1] at hx; injection hx with hx; rw [← hx, hge, ← hrd]; exact c2))
        have hj0 : (0 : Int) ≤ (j : Int) := by omega
        have hj1 : (j : Int) ≤ (l0.length : Int) := by omega
        have hj2 : (j : Int) ≤ (c0 : Int) := by have := HC0.out; omega
        have hj3 : (l0.length : Int) ≤ (c0 : Int) := by have := HC0.out; omega
        have HJN := Aside0.mk (show j ≤ l0.length by omega)
        clear c2 c3 hrd hge HJ HA
        have HCT := Aside0.mk (fun (W : World) (hb : Below w.heap.size w W) => (show ReadsRow ((Kd.int .i64).K W) 1 W (some ad) j (l0.take j) from by have h_ := Kd.C_below (Kd.C_take HR0.out HJN.out) hb; rwa [List.length_take, Nat.min_eq_left HJN.out] at h_))
        have HCD := Aside0.mk (fun (W : World) (hb : Below w.heap.size w W) => (show ReadsRow ((Kd.int .i64).K W) 1 W (if c0 = j then some ad else some (ad.add j)) (l0.length - j) (l0.drop j) from by have h_ := Kd.C_below (Kd.C_drop (m := j) (c := c0) HR0.out HJN.out HC0.out) hb; rw [List.length_drop] at h_; have e_ : ((some ad).map (·.add (j * (Kd.int .i64).sz)) : Option Addr) = some (ad.add j) := (by show some (ad.add (j * 1)) = _; rw [Nat.mul_one]); rw [e_] at h_; exact h_))
        go_wp2
        go_region_held3 (fun w' => True) (trivial) ((first
            | (refine Kd.R_append_rows_step (Kd.int .i64) (w0 := w) (W := (wr.alloc (.cells #[] 3)).drew) w.heap.size (by rfl) (.tmp 33) (.tmp 36) 45 3 (.int .i64 0) 8 (by rfl) Tryd.underlying45 info3 (by rfl) (by decide) (by decide) (.slice (some ⟨wr.heap.size, 0, none⟩) 0 0) [] (l0.take j) (some ad) j c0 (fun _ => True) (fun _ => False) (by rfl) (by rfl) (Kd.R_mono (by have h_ := (lit0_R wr w.heap.size (below_size (by with_reducible repeat (first | exact HB.out | apply below_alloc | apply below_drew1))) wr.heap.size rfl); with_reducible repeat (first | exact h_ | apply Kd.R_alloc | apply Kd.R_drewN | apply Kd.R_drew)) (fun _ _ => trivial)) (HCT.out _ (by with_reducible repeat (first | exact HB.out | apply below_alloc | apply below_drew1))) (fun _ _ h_ => h_) (fun _ h_ => h_.elim) (fun _ _ => trivial) (by with_reducible repeat (first | exact HB.out | apply below_alloc | apply below_drew1)) (below_size (by with_reducible repeat (first | exact HB.out | apply below_alloc | apply below_drew1))) (by have := HLe.out; have := HJN.out; simp only [List.length_nil]; omega) ?_; intro v4 w4 ho4 hb4 hg4 hat4; have HO4 := Aside0.mk ho4; have HB4 := Aside0.mk hb4; clear ho4 hb4 hg4 hat4)
            | (refine Kd.R_append_rows_step (Kd.int .i64) (w0 := w) (W := ((wr.alloc (.cells #[] 3)).alloc (.cells #[.int .i64 a1] 3)).drew) w.heap.size (by rfl) (.tmp 33) (.tmp 36) 45 3 (.int .i64 0) 8 (by rfl) Tryd.underlying45 info3 (by rfl) (by decide) (by decide) (.slice (some ⟨wr.heap.size, 0, none⟩) 0 0) [] (l0.take j) (some ad) j c0 (fun _ => True) (fun _ => False) (by rfl) (by rfl) (Kd.R_mono (by have h_ := (lit0_R wr w.heap.size (below_size (by with_reducible repeat (first | exact HB.out | apply below_alloc | apply below_drew1))) wr.heap.size rfl); with_reducible repeat (first | exact h_ | apply Kd.R_alloc | apply Kd.R_drewN | apply Kd.R_drew)) (fun _ _ => trivial)) (HCT.out _ (by with_reducible repeat (first | exact HB.out | apply below_alloc | apply below_drew1))) (fun _ _ h_ => h_) (fun _ h_ => h_.elim) (fun _ _ => trivial) (by with_reducible repeat (first | exact HB.out | apply below_alloc | apply below_drew1)) (below_size (by with_reducible repeat (first | exact HB.out | apply below_alloc | apply below_drew1))) (by have := HLe.out; have := HJN.out; simp only [List.length_nil]; omega) ?_; intro v4 w4 ho4 hb4 hg4 hat4; have HO4 := Aside0.mk ho4; have HB4 := Aside0.mk hb4; have HN := Aside0.mk (Kd.R_grown (by have h_ := (lit1_R (wr.alloc (.cells #[] 3)) a1 w.heap.size (below_size (by with_reducible repeat (first | exact HB.out | apply below_alloc | apply below_drew1))) (wr.heap.size + 1) (by simp)); with_reducible repeat (first | exact h_ | apply Kd.R_alloc | apply Kd.R_drewN | apply Kd.R_drew)) hg4 (fun k hk => by have hk' : k = wr.heap.size + 1 := hk; rw [hk']; intro e_; simp [Value.ownBlock] at e_)); clear ho4 hb4 hg4 hat4)
            | (refine Kd.R_append_rows_step (Kd.int .i64) (w0 := w) (W := ((wr.alloc (.cells #[.int .i64 a1] 3)).alloc (.cells #[] 3)).drew) w.heap.size (by rfl) (.tmp 33) (.tmp 36) 45 3 (.int .i64 0) 8 (by rfl) Tryd.underlying45 info3 (by rfl) (by decide) (by decide) (.slice (some ⟨(wr.heap.size + 1), 0, none⟩) 0 0) [] (l0.take j) (some ad) j c0 (fun _ => True) (fun _ => False) (by rfl) (by rfl) (Kd.R_mono (by have h_ := (lit0_R (wr.alloc (.cells #[.int .i64 a1] 3)) w.heap.size (below_size (by with_reducible repeat (first | exact HB.out | apply below_alloc | apply below_drew1))) (wr.heap.size + 1) (by simp)); with_reducible repeat (first | exact h_ | apply Kd.R_alloc | apply Kd.R_drewN | apply Kd.R_drew)) (fun _ _ => trivial)) (HCT.out _ (by with_reducible repeat (first | exact HB.out | apply below_alloc | apply below_drew1))) (fun _ _ h_ => h_) (fun _ h_ => h_.elim) (fun _ _ => trivial) (by with_reducible repeat (first | exact HB.out | apply below_alloc | apply below_drew1)) (below_size (by with_reducible repeat (first | exact HB.out | apply below_alloc | apply below_drew1))) (by have := HLe.out; have := HJN.out; simp only [List.length_nil]; omega) ?_; intro v4 w4 ho4 hb4 hg4 hat4; have HO4 := Aside0.mk ho4; have HB4 := Aside0.mk hb4; have HN := Aside0.mk (Kd.R_grown (by have h_ := (lit1_R wr a1 w.heap.size (below_size (by with_reducible repeat (first | exact HB.out | apply below_alloc | apply below_drew1))) wr.heap.size rfl); with_reducible repeat (first | exact h_ | apply Kd.R_alloc | apply Kd.R_drewN | apply Kd.R_drew)) hg4 (fun k hk => by have hk' : k = wr.heap.size := hk; rw [hk']; intro e_; simp [Value.ownBlock] at e_)); clear ho4 hb4 hg4 hat4)
            | (refine Kd.R_append_rows_step (Kd.int .i64) (w0 := w) w.heap.size (by rfl) (.tmp 37) (.tmp 39) 45 3 (.int .i64 0) 8 (by rfl) Tryd.underlying45 info3 (by rfl) (by decide) (by decide) v4 ([] ++ l0.take j) [a1] (some ⟨w4.heap.size, 0, none⟩) 1 1 (fun _ => True) (fun _ => False) (by rfl) (by rfl) (by have h_ := HO4.out; with_reducible repeat (first | exact h_ | apply Kd.R_alloc | apply Kd.R_drewN | apply Kd.R_drew)) (row_of (by have h_ := (lit1_R w4 a1 w.heap.size (below_size (by with_reducible repeat (first | exact HB4.out | apply below_alloc | apply below_drew1))) w4.heap.size rfl); with_reducible repeat (first | exact h_ | apply Kd.R_alloc | apply Kd.R_drewN | apply Kd.R_drew))) (fun _ _ h_ => h_) (fun _ h_ => h_.elim) (fun _ _ => trivial) (by with_reducible repeat (first | exact HB4.out | apply below_alloc | apply below_drew1)) (below_size (by with_reducible repeat (first | exact HB4.out | apply below_alloc | apply below_drew1))) (by have := HLe.out; have := HJN.out; simp only [List.nil_append, List.length_take]; omega) ?_; intro v7 w7 ho7 hb7 hg7 hat7; have HO7 := Aside0.mk ho7; have HB7 := Aside0.mk hb7; clear ho7 hb7 hg7 hat7)
            | (refine Kd.R_append_rows_step (Kd.int .i64) (w0 := w) w.heap.size (by rfl) (.tmp 37) (.tmp 39) 45 3 (.int .i64 0) 8 (by rfl) Tryd.underlying45 info3 (by rfl) (by decide) (by decide) v4 ([] ++ l0.take j) [a1] (some ⟨(wr.heap.size + 1), 0, none⟩) 1 1 (fun _ => True) (fun _ => False) (by rfl) (by rfl) (by have h_ := HO4.out; with_reducible repeat (first | exact h_ | apply Kd.R_alloc | apply Kd.R_drewN | apply Kd.R_drew)) (row_of (by have h_ := HN.out; with_reducible repeat (first | exact h_ | apply Kd.R_alloc | apply Kd.R_drewN | apply Kd.R_drew))) (fun _ _ h_ => h_) (fun _ h_ => h_.elim) (fun _ _ => trivial) (by with_reducible repeat (first | exact HB4.out | apply below_alloc | apply below_drew1)) (below_size (by with_reducible repeat (first | exact HB4.out | apply below_alloc | apply below_drew1))) (by have := HLe.out; have := HJN.out; simp only [List.nil_append, List.length_take]; omega) ?_; intro v7 w7 ho7 hb7 hg7 hat7; have HO7 := Aside0.mk ho7; have HB7 := Aside0.mk hb7; clear ho7 hb7 hg7 hat7)
            | (refine Kd.R_append_rows_step (Kd.int .i64) (w0 := w) w.heap.size (by rfl) (.tmp 37) (.tmp 39) 45 3 (.int .i64 0) 8 (by rfl) Tryd.underlying45 info3 (by rfl) (by decide) (by decide) v4 ([] ++ l0.take j) [a1] (some ⟨wr.heap.size, 0, none⟩) 1 1 (fun _ => True) (fun _ => False) (by rfl) (by rfl) (by have h_ := HO4.out; with_reducible repeat (first | exact h_ | apply Kd.R_alloc | apply Kd.R_drewN | apply Kd.R_drew)) (row_of (by have h_ := HN.out; with_reducible repeat (first | exact h_ | apply Kd.R_alloc | apply Kd.R_drewN | apply Kd.R_drew))) (fun _ _ h_ => h_) (fun _ h_ => h_.elim) (fun _ _ => trivial) (by with_reducible repeat (first | exact HB4.out | apply below_alloc | apply below_drew1)) (below_size (by with_reducible repeat (first | exact HB4.out | apply below_alloc | apply below_drew1))) (by have := HLe.out; have := HJN.out; simp only [List.nil_append, List.length_take]; omega) ?_; intro v7 w7 ho7 hb7 hg7 hat7; have HO7 := Aside0.mk ho7; have HB7 := Aside0.mk hb7; clear ho7 hb7 hg7 hat7)
            | (refine Kd.R_append_rows_step (Kd.int .i64) (w0 := w) w.heap.size (by rfl) (.tmp 40) (.tmp 43) 45 3 (.int .i64 0) 8 (by rfl) Tryd.underlying45 info3 (by rfl) (by decide) (by decide) v7 ([] ++ l0.take j ++ [a1]) (l0.drop j) (if c0 = j then some ad else some (ad.add j)) (l0.length - j) (c0 - j) (fun _ => True) (fun _ => False) (by rfl) (by rfl) (by have h_ := HO7.out; with_reducible repeat (first | exact h_ | apply Kd.R_alloc | apply Kd.R_drewN | apply Kd.R_drew)) (HCD.out _ (by with_reducible repeat (first | exact HB7.out | apply below_alloc | apply below_drew1))) (fun _ _ h_ => h_) (fun _ h_ => h_.elim) (fun _ _ => trivial) (by with_reducible repeat (first | exact HB7.out | apply below_alloc | apply below_drew1)) (below_size (by with_reducible repeat (first | exact HB7.out | apply below_alloc | apply below_drew1))) (by have := HLe.out; have := HJN.out; simp only [List.nil_append, List.length_append, List.length_take, List.length_singleton]; omega) ?_; intro v11 w11 ho11 hb11 hg11 hat11; have HO11 := Aside0.mk ho11; have HB11 := Aside0.mk hb11; clear ho11 hb11 hg11 hat11)
            | fail))
        all_goals
          go_wp2
          all_goals
            go_ret
            exact ⟨_, rfl, by rw [PE.out]; simpa using HO11.out, HB11.out⟩
    | zero =>
      have hj : j = l0.length := by have := HJ.out; omega
      have c1n : decide (j < l0.length) = false := decide_eq_false (by omega)
      have c1b : decide ((j : Int) < (l0.length : Int)) = false := decide_eq_false (by omega)
      have PE := Aside0.mk (putIn_eq l0 a1 j (by omega) HA.out (fun x hx => by rw [List.getElem?_eq_none (by omega)] at hx; cases hx))
      have hj0 : (0 : Int) ≤ (j : Int) := by omega
      have hj1 : (j : Int) ≤ (l0.length : Int) := by omega
      have hj2 : (j : Int) ≤ (c0 : Int) := by have := HC0.out; omega
      have hj3 : (l0.length : Int) ≤ (c0 : Int) := by have := HC0.out; omega
      have HJN := Aside0.mk (show j ≤ l0.length by omega)
      clear hj HJ HA
      cases A0 with
      | none =>
        have HCT := Aside0.mk (fun (W : World) (hb : Below w.heap.size w W) => (show ReadsRow ((Kd.int .i64).K W) 1 W none j (l0.take j) from by have h_ := Kd.C_below (Kd.C_take HR0.out HJN.out) hb; rwa [List.length_take, Nat.min_eq_left HJN.out] at h_))
        have HCD := Aside0.mk (fun (W : World) (hb : Below w.heap.size w W) => (show ReadsRow ((Kd.int .i64).K W) 1 W none (l0.length - j) (l0.drop j) from by have h_ := Kd.C_below (Kd.C_drop (m := j) (c := c0) HR0.out HJN.out HC0.out) hb; rw [List.length_drop] at h_; have e_ : (if c0 = j then (none : Option Addr) else (none : Option Addr).map (·.add (j * (Kd.int .i64).sz))) = none := (by split <;> rfl); rw [e_] at h_; exact h_))
        go_wp2
        go_region_held3 (fun w' => True) (trivial) ((first
            | (refine Kd.R_append_rows_step (Kd.int .i64) (w0 := w) (W := (wr.alloc (.cells #[] 3)).drew) w.heap.size (by rfl) (.tmp 33) (.tmp 36) 45 3 (.int .i64 0) 8 (by rfl) Tryd.underlying45 info3 (by rfl) (by decide) (by decide) (.slice (some ⟨wr.heap.size, 0, none⟩) 0 0) [] (l0.take j) none j c0 (fun _ => True) (fun _ => False) (by rfl) (by rfl) (Kd.R_mono (by have h_ := (lit0_R wr w.heap.size (below_size (by with_reducible repeat (first | exact HB.out | apply below_alloc | apply below_drew1))) wr.heap.size rfl); with_reducible repeat (first | exact h_ | apply Kd.R_alloc | apply Kd.R_drewN | apply Kd.R_drew)) (fun _ _ => trivial)) (HCT.out _ (by with_reducible repeat (first | exact HB.out | apply below_alloc | apply below_drew1))) (fun _ _ h_ => h_) (fun _ h_ => h_.elim) (fun _ _ => trivial) (by with_reducible repeat (first | exact HB.out | apply below_alloc | apply below_drew1)) (below_size (by with_reducible repeat (first | exact HB.out | apply below_alloc | apply below_drew1))) (by have := HLe.out; have := HJN.out; simp only [List.length_nil]; omega) ?_; intro v4 w4 ho4 hb4 hg4 hat4; have HO4 := Aside0.mk ho4; have HB4 := Aside0.mk hb4; clear ho4 hb4 hg4 hat4)
            | (refine Kd.R_append_rows_step (Kd.int .i64) (w0 := w) (W := ((wr.alloc (.cells #[] 3)).alloc (.cells #[.int .i64 a1] 3)).drew) w.heap.size (by rfl) (.tmp 33) (.tmp 36) 45 3 (.int .i64 0) 8 (by rfl) Tryd.underlying45 info3 (by rfl) (by decide) (by decide) (.slice (some ⟨wr.heap.size, 0, none⟩) 0 0) [] (l0.take j) none j c0 (fun _ => True) (fun _ => False) (by rfl) (by rfl) (Kd.R_mono (by have h_ := (lit0_R wr w.heap.size (below_size (by with_reducible repeat (first | exact HB.out | apply below_alloc | apply below_drew1))) wr.heap.size rfl); with_reducible repeat (first | exact h_ | apply Kd.R_alloc | apply Kd.R_drewN | apply Kd.R_drew)) (fun _ _ => trivial)) (HCT.out _ (by with_reducible repeat (first | exact HB.out | apply below_alloc | apply below_drew1))) (fun _ _ h_ => h_) (fun _ h_ => h_.elim) (fun _ _ => trivial) (by with_reducible repeat (first | exact HB.out | apply below_alloc | apply below_drew1)) (below_size (by with_reducible repeat (first | exact HB.out | apply below_alloc | apply below_drew1))) (by have := HLe.out; have := HJN.out; simp only [List.length_nil]; omega) ?_; intro v4 w4 ho4 hb4 hg4 hat4; have HO4 := Aside0.mk ho4; have HB4 := Aside0.mk hb4; have HN := Aside0.mk (Kd.R_grown (by have h_ := (lit1_R (wr.alloc (.cells #[] 3)) a1 w.heap.size (below_size (by with_reducible repeat (first | exact HB.out | apply below_alloc | apply below_drew1))) (wr.heap.size + 1) (by simp)); with_reducible repeat (first | exact h_ | apply Kd.R_alloc | apply Kd.R_drewN | apply Kd.R_drew)) hg4 (fun k hk => by have hk' : k = wr.heap.size + 1 := hk; rw [hk']; intro e_; simp [Value.ownBlock] at e_)); clear ho4 hb4 hg4 hat4)
            | (refine Kd.R_append_rows_step (Kd.int .i64) (w0 := w) (W := ((wr.alloc (.cells #[.int .i64 a1] 3)).alloc (.cells #[] 3)).drew) w.heap.size (by rfl) (.tmp 33) (.tmp 36) 45 3 (.int .i64 0) 8 (by rfl) Tryd.underlying45 info3 (by rfl) (by decide) (by decide) (.slice (some ⟨(wr.heap.size + 1), 0, none⟩) 0 0) [] (l0.take j) none j c0 (fun _ => True) (fun _ => False) (by rfl) (by rfl) (Kd.R_mono (by have h_ := (lit0_R (wr.alloc (.cells #[.int .i64 a1] 3)) w.heap.size (below_size (by with_reducible repeat (first | exact HB.out | apply below_alloc | apply below_drew1))) (wr.heap.size + 1) (by simp)); with_reducible repeat (first | exact h_ | apply Kd.R_alloc | apply Kd.R_drewN | apply Kd.R_drew)) (fun _ _ => trivial)) (HCT.out _ (by with_reducible repeat (first | exact HB.out | apply below_alloc | apply below_drew1))) (fun _ _ h_ => h_) (fun _ h_ => h_.elim) (fun _ _ => trivial) (by with_reducible repeat (first | exact HB.out | apply below_alloc | apply below_drew1)) (below_size (by with_reducible repeat (first | exact HB.out | apply below_alloc | apply below_drew1))) (by have := HLe.out; have := HJN.out; simp only [List.length_nil]; omega) ?_; intro v4 w4 ho4 hb4 hg4 hat4; have HO4 := Aside0.mk ho4; have HB4 := Aside0.mk hb4; have HN := Aside0.mk (Kd.R_grown (by have h_ := (lit1_R wr a1 w.heap.size (below_size (by with_reducible repeat (first | exact HB.out | apply below_alloc | apply below_drew1))) wr.heap.size rfl); with_reducible repeat (first | exact h_ | apply Kd.R_alloc | apply Kd.R_drewN | apply Kd.R_drew)) hg4 (fun k hk => by have hk' : k = wr.heap.size := hk; rw [hk']; intro e_; simp [Value.ownBlock] at e_)); clear ho4 hb4 hg4 hat4)
            | (refine Kd.R_append_rows_step (Kd.int .i64) (w0 := w) w.heap.size (by rfl) (.tmp 37) (.tmp 39) 45 3 (.int .i64 0) 8 (by rfl) Tryd.underlying45 info3 (by rfl) (by decide) (by decide) v4 ([] ++ l0.take j) [a1] (some ⟨w4.heap.size, 0, none⟩) 1 1 (fun _ => True) (fun _ => False) (by rfl) (by rfl) (by have h_ := HO4.out; with_reducible repeat (first | exact h_ | apply Kd.R_alloc | apply Kd.R_drewN | apply Kd.R_drew)) (row_of (by have h_ := (lit1_R w4 a1 w.heap.size (below_size (by with_reducible repeat (first | exact HB4.out | apply below_alloc | apply below_drew1))) w4.heap.size rfl); with_reducible repeat (first | exact h_ | apply Kd.R_alloc | apply Kd.R_drewN | apply Kd.R_drew))) (fun _ _ h_ => h_) (fun _ h_ => h_.elim) (fun _ _ => trivial) (by with_reducible repeat (first | exact HB4.out | apply below_alloc | apply below_drew1)) (below_size (by with_reducible repeat (first | exact HB4.out | apply below_alloc | apply below_drew1))) (by have := HLe.out; have := HJN.out; simp only [List.nil_append, List.length_take]; omega) ?_; intro v7 w7 ho7 hb7 hg7 hat7; have HO7 := Aside0.mk ho7; have HB7 := Aside0.mk hb7; clear ho7 hb7 hg7 hat7)
            | (refine Kd.R_append_rows_step (Kd.int .i64) (w0 := w) w.heap.size (by rfl) (.tmp 37) (.tmp 39) 45 3 (.int .i64 0) 8 (by rfl) Tryd.underlying45 info3 (by rfl) (by decide) (by decide) v4 ([] ++ l0.take j) [a1] (some ⟨(wr.heap.size + 1), 0, none⟩) 1 1 (fun _ => True) (fun _ => False) (by rfl) (by rfl) (by have h_ := HO4.out; with_reducible repeat (first | exact h_ | apply Kd.R_alloc | apply Kd.R_drewN | apply Kd.R_drew)) (row_of (by have h_ := HN.out; with_reducible repeat (first | exact h_ | apply Kd.R_alloc | apply Kd.R_drewN | apply Kd.R_drew))) (fun _ _ h_ => h_) (fun _ h_ => h_.elim) (fun _ _ => trivial) (by with_reducible repeat (first | exact HB4.out | apply below_alloc | apply below_drew1)) (below_size (by with_reducible repeat (first | exact HB4.out | apply below_alloc | apply below_drew1))) (by have := HLe.out; have := HJN.out; simp only [List.nil_append, List.length_take]; omega) ?_; intro v7 w7 ho7 hb7 hg7 hat7; have HO7 := Aside0.mk ho7; have HB7 := Aside0.mk hb7; clear ho7 hb7 hg7 hat7)
            | (refine Kd.R_append_rows_step (Kd.int .i64) (w0 := w) w.heap.size (by rfl) (.tmp 37) (.tmp 39) 45 3 (.int .i64 0) 8 (by rfl) Tryd.underlying45 info3 (by rfl) (by decide) (by decide) v4 ([] ++ l0.take j) [a1] (some ⟨wr.heap.size, 0, none⟩) 1 1 (fun _ => True) (fun _ => False) (by rfl) (by rfl) (by have h_ := HO4.out; with_reducible repeat (first | exact h_ | apply Kd.R_alloc | apply Kd.R_drewN | apply Kd.R_drew)) (row_of (by have h_ := HN.out; with_reducible repeat (first | exact h_ | apply Kd.R_alloc | apply Kd.R_drewN | apply Kd.R_drew))) (fun _ _ h_ => h_) (fun _ h_ => h_.elim) (fun _ _ => trivial) (by with_reducible repeat (first | exact HB4.out | apply below_alloc | apply below_drew1)) (below_size (by with_reducible repeat (first | exact HB4.out | apply below_alloc | apply below_drew1))) (by have := HLe.out; have := HJN.out; simp only [List.nil_append, List.length_take]; omega) ?_; intro v7 w7 ho7 hb7 hg7 hat7; have HO7 := Aside0.mk ho7; have HB7 := Aside0.mk hb7; clear ho7 hb7 hg7 hat7)
            | (refine Kd.R_append_rows_step (Kd.int .i64) (w0 := w) w.heap.size (by rfl) (.tmp 40) (.tmp 43) 45 3 (.int .i64 0) 8 (by rfl) Tryd.underlying45 info3 (by rfl) (by decide) (by decide) v7 ([] ++ l0.take j ++ [a1]) (l0.drop j) none (l0.length - j) (c0 - j) (fun _ => True) (fun _ => False) (by rfl) (by rfl) (by have h_ := HO7.out; with_reducible repeat (first | exact h_ | apply Kd.R_alloc | apply Kd.R_drewN | apply Kd.R_drew)) (HCD.out _ (by with_reducible repeat (first | exact HB7.out | apply below_alloc | apply below_drew1))) (fun _ _ h_ => h_) (fun _ h_ => h_.elim) (fun _ _ => trivial) (by with_reducible repeat (first | exact HB7.out | apply below_alloc | apply below_drew1)) (below_size (by with_reducible repeat (first | exact HB7.out | apply below_alloc | apply below_drew1))) (by have := HLe.out; have := HJN.out; simp only [List.nil_append, List.length_append, List.length_take, List.length_singleton]; omega) ?_; intro v11 w11 ho11 hb11 hg11 hat11; have HO11 := Aside0.mk ho11; have HB11 := Aside0.mk hb11; clear ho11 hb11 hg11 hat11)
            | fail))
        all_goals
          go_wp2
          all_goals
            go_ret
            exact ⟨_, rfl, by rw [PE.out]; simpa using HO11.out, HB11.out⟩
      | some ad =>
        have HCT := Aside0.mk (fun (W : World) (hb : Below w.heap.size w W) => (show ReadsRow ((Kd.int .i64).K W) 1 W (some ad) j (l0.take j) from by have h_ := Kd.C_below (Kd.C_take HR0.out HJN.out) hb; rwa [List.length_take, Nat.min_eq_left HJN.out] at h_))
        have HCD := Aside0.mk (fun (W : World) (hb : Below w.heap.size w W) => (show ReadsRow ((Kd.int .i64).K W) 1 W (if c0 = j then some ad else some (ad.add j)) (l0.length - j) (l0.drop j) from by have h_ := Kd.C_below (Kd.C_drop (m := j) (c := c0) HR0.out HJN.out HC0.out) hb; rw [List.length_drop] at h_; have e_ : ((some ad).map (·.add (j * (Kd.int .i64).sz)) : Option Addr) = some (ad.add j) := (by show some (ad.add (j * 1)) = _; rw [Nat.mul_one]); rw [e_] at h_; exact h_))
        go_wp2
        go_region_held3 (fun w' => True) (trivial) ((first
            | (refine Kd.R_append_rows_step (Kd.int .i64) (w0 := w) (W := (wr.alloc (.cells #[] 3)).drew) w.heap.size (by rfl) (.tmp 33) (.tmp 36) 45 3 (.int .i64 0) 8 (by rfl) Tryd.underlying45 info3 (by rfl) (by decide) (by decide) (.slice (some ⟨wr.heap.size, 0, none⟩) 0 0) [] (l0.take j) (some ad) j c0 (fun _ => True) (fun _ => False) (by rfl) (by rfl) (Kd.R_mono (by have h_ := (lit0_R wr w.heap.size (below_size (by with_reducible repeat (first | exact HB.out | apply below_alloc | apply below_drew1))) wr.heap.size rfl); with_reducible repeat (first | exact h_ | apply Kd.R_alloc | apply Kd.R_drewN | apply Kd.R_drew)) (fun _ _ => trivial)) (HCT.out _ (by with_reducible repeat (first | exact HB.out | apply below_alloc | apply below_drew1))) (fun _ _ h_ => h_) (fun _ h_ => h_.elim) (fun _ _ => trivial) (by with_reducible repeat (first | exact HB.out | apply below_alloc | apply below_drew1)) (below_size (by with_reducible repeat (first | exact HB.out | apply below_alloc | apply below_drew1))) (by have := HLe.out; have := HJN.out; simp only [List.length_nil]; omega) ?_; intro v4 w4 ho4 hb4 hg4 hat4; have HO4 := Aside0.mk ho4; have HB4 := Aside0.mk hb4; clear ho4 hb4 hg4 hat4)
            | (refine Kd.R_append_rows_step (Kd.int .i64) (w0 := w) (W := ((wr.alloc (.cells #[] 3)).alloc (.cells #[.int .i64 a1] 3)).drew) w.heap.size (by rfl) (.tmp 33) (.tmp 36) 45 3 (.int .i64 0) 8 (by rfl) Tryd.underlying45 info3 (by rfl) (by decide) (by decide) (.slice (some ⟨wr.heap.size, 0, none⟩) 0 0) [] (l0.take j) (some ad) j c0 (fun _ => True) (fun _ => False) (by rfl) (by rfl) (Kd.R_mono (by have h_ := (lit0_R wr w.heap.size (below_size (by with_reducible repeat (first | exact HB.out | apply below_alloc | apply below_drew1))) wr.heap.size rfl); with_reducible repeat (first | exact h_ | apply Kd.R_alloc | apply Kd.R_drewN | apply Kd.R_drew)) (fun _ _ => trivial)) (HCT.out _ (by with_reducible repeat (first | exact HB.out | apply below_alloc | apply below_drew1))) (fun _ _ h_ => h_) (fun _ h_ => h_.elim) (fun _ _ => trivial) (by with_reducible repeat (first | exact HB.out | apply below_alloc | apply below_drew1)) (below_size (by with_reducible repeat (first | exact HB.out | apply below_alloc | apply below_drew1))) (by have := HLe.out; have := HJN.out; simp only [List.length_nil]; omega) ?_; intro v4 w4 ho4 hb4 hg4 hat4; have HO4 := Aside0.mk ho4; have HB4 := Aside0.mk hb4; have HN := Aside0.mk (Kd.R_grown (by have h_ := (lit1_R (wr.alloc (.cells #[] 3)) a1 w.heap.size (below_size (by with_reducible repeat (first | exact HB.out | apply below_alloc | apply below_drew1))) (wr.heap.size + 1) (by simp)); with_reducible repeat (first | exact h_ | apply Kd.R_alloc | apply Kd.R_drewN | apply Kd.R_drew)) hg4 (fun k hk => by have hk' : k = wr.heap.size + 1 := hk; rw [hk']; intro e_; simp [Value.ownBlock] at e_)); clear ho4 hb4 hg4 hat4)
            | (refine Kd.R_append_rows_step (Kd.int .i64) (w0 := w) (W := ((wr.alloc (.cells #[.int .i64 a1] 3)).alloc (.cells #[] 3)).drew) w.heap.size (by rfl) (.tmp 33) (.tmp 36) 45 3 (.int .i64 0) 8 (by rfl) Tryd.underlying45 info3 (by rfl) (by decide) (by decide) (.slice (some ⟨(wr.heap.size + 1), 0, none⟩) 0 0) [] (l0.take j) (some ad) j c0 (fun _ => True) (fun _ => False) (by rfl) (by rfl) (Kd.R_mono (by have h_ := (lit0_R (wr.alloc (.cells #[.int .i64 a1] 3)) w.heap.size (below_size (by with_reducible repeat (first | exact HB.out | apply below_alloc | apply below_drew1))) (wr.heap.size + 1) (by simp)); with_reducible repeat (first | exact h_ | apply Kd.R_alloc | apply Kd.R_drewN | apply Kd.R_drew)) (fun _ _ => trivial)) (HCT.out _ (by with_reducible repeat (first | exact HB.out | apply below_alloc | apply below_drew1))) (fun _ _ h_ => h_) (fun _ h_ => h_.elim) (fun _ _ => trivial) (by with_reducible repeat (first | exact HB.out | apply below_alloc | apply below_drew1)) (below_size (by with_reducible repeat (first | exact HB.out | apply below_alloc | apply below_drew1))) (by have := HLe.out; have := HJN.out; simp only [List.length_nil]; omega) ?_; intro v4 w4 ho4 hb4 hg4 hat4; have HO4 := Aside0.mk ho4; have HB4 := Aside0.mk hb4; have HN := Aside0.mk (Kd.R_grown (by have h_ := (lit1_R wr a1 w.heap.size (below_size (by with_reducible repeat (first | exact HB.out | apply below_alloc | apply below_drew1))) wr.heap.size rfl); with_reducible repeat (first | exact h_ | apply Kd.R_alloc | apply Kd.R_drewN | apply Kd.R_drew)) hg4 (fun k hk => by have hk' : k = wr.heap.size := hk; rw [hk']; intro e_; simp [Value.ownBlock] at e_)); clear ho4 hb4 hg4 hat4)
            | (refine Kd.R_append_rows_step (Kd.int .i64) (w0 := w) w.heap.size (by rfl) (.tmp 37) (.tmp 39) 45 3 (.int .i64 0) 8 (by rfl) Tryd.underlying45 info3 (by rfl) (by decide) (by decide) v4 ([] ++ l0.take j) [a1] (some ⟨w4.heap.size, 0, none⟩) 1 1 (fun _ => True) (fun _ => False) (by rfl) (by rfl) (by have h_ := HO4.out; with_reducible repeat (first | exact h_ | apply Kd.R_alloc | apply Kd.R_drewN | apply Kd.R_drew)) (row_of (by have h_ := (lit1_R w4 a1 w.heap.size (below_size (by with_reducible repeat (first | exact HB4.out | apply below_alloc | apply below_drew1))) w4.heap.size rfl); with_reducible repeat (first | exact h_ | apply Kd.R_alloc | apply Kd.R_drewN | apply Kd.R_drew))) (fun _ _ h_ => h_) (fun _ h_ => h_.elim) (fun _ _ => trivial) (by with_reducible repeat (first | exact HB4.out | apply below_alloc | apply below_drew1)) (below_size (by with_reducible repeat (first | exact HB4.out | apply below_alloc | apply below_drew1))) (by have := HLe.out; have := HJN.out; simp only [List.nil_append, List.length_take]; omega) ?_; intro v7 w7 ho7 hb7 hg7 hat7; have HO7 := Aside0.mk ho7; have HB7 := Aside0.mk hb7; clear ho7 hb7 hg7 hat7)
            | (refine Kd.R_append_rows_step (Kd.int .i64) (w0 := w) w.heap.size (by rfl) (.tmp 37) (.tmp 39) 45 3 (.int .i64 0) 8 (by rfl) Tryd.underlying45 info3 (by rfl) (by decide) (by decide) v4 ([] ++ l0.take j) [a1] (some ⟨(wr.heap.size + 1), 0, none⟩) 1 1 (fun _ => True) (fun _ => False) (by rfl) (by rfl) (by have h_ := HO4.out; with_reducible repeat (first | exact h_ | apply Kd.R_alloc | apply Kd.R_drewN | apply Kd.R_drew)) (row_of (by have h_ := HN.out; with_reducible repeat (first | exact h_ | apply Kd.R_alloc | apply Kd.R_drewN | apply Kd.R_drew))) (fun _ _ h_ => h_) (fun _ h_ => h_.elim) (fun _ _ => trivial) (by with_reducible repeat (first | exact HB4.out | apply below_alloc | apply below_drew1)) (below_size (by with_reducible repeat (first | exact HB4.out | apply below_alloc | apply below_drew1))) (by have := HLe.out; have := HJN.out; simp only [List.nil_append, List.length_take]; omega) ?_; intro v7 w7 ho7 hb7 hg7 hat7; have HO7 := Aside0.mk ho7; have HB7 := Aside0.mk hb7; clear ho7 hb7 hg7 hat7)
            | (refine Kd.R_append_rows_step (Kd.int .i64) (w0 := w) w.heap.size (by rfl) (.tmp 37) (.tmp 39) 45 3 (.int .i64 0) 8 (by rfl) Tryd.underlying45 info3 (by rfl) (by decide) (by decide) v4 ([] ++ l0.take j) [a1] (some ⟨wr.heap.size, 0, none⟩) 1 1 (fun _ => True) (fun _ => False) (by rfl) (by rfl) (by have h_ := HO4.out; with_reducible repeat (first | exact h_ | apply Kd.R_alloc | apply Kd.R_drewN | apply Kd.R_drew)) (row_of (by have h_ := HN.out; with_reducible repeat (first | exact h_ | apply Kd.R_alloc | apply Kd.R_drewN | apply Kd.R_drew))) (fun _ _ h_ => h_) (fun _ h_ => h_.elim) (fun _ _ => trivial) (by with_reducible repeat (first | exact HB4.out | apply below_alloc | apply below_drew1)) (below_size (by with_reducible repeat (first | exact HB4.out | apply below_alloc | apply below_drew1))) (by have := HLe.out; have := HJN.out; simp only [List.nil_append, List.length_take]; omega) ?_; intro v7 w7 ho7 hb7 hg7 hat7; have HO7 := Aside0.mk ho7; have HB7 := Aside0.mk hb7; clear ho7 hb7 hg7 hat7)
            | (refine Kd.R_append_rows_step (Kd.int .i64) (w0 := w) w.heap.size (by rfl) (.tmp 40) (.tmp 43) 45 3 (.int .i64 0) 8 (by rfl) Tryd.underlying45 info3 (by rfl) (by decide) (by decide) v7 ([] ++ l0.take j ++ [a1]) (l0.drop j) (if c0 = j then some ad else some (ad.add j)) (l0.length - j) (c0 - j) (fun _ => True) (fun _ => False) (by rfl) (by rfl) (by have h_ := HO7.out; with_reducible repeat (first | exact h_ | apply Kd.R_alloc | apply Kd.R_drewN | apply Kd.R_drew)) (HCD.out _ (by with_reducible repeat (first | exact HB7.out | apply below_alloc | apply below_drew1))) (fun _ _ h_ => h_) (fun _ h_ => h_.elim) (fun _ _ => trivial) (by with_reducible repeat (first | exact HB7.out | apply below_alloc | apply below_drew1)) (below_size (by with_reducible repeat (first | exact HB7.out | apply below_alloc | apply below_drew1))) (by have := HLe.out; have := HJN.out; simp only [List.nil_append, List.length_append, List.length_take, List.length_singleton]; omega) ?_; intro v11 w11 ho11 hb11 hg11 hat11; have HO11 := Aside0.mk ho11; have HB11 := Aside0.mk hb11; clear ho11 hb11 hg11 hat11)
            | fail))
        all_goals
          go_wp2
          all_goals
            go_ret
            exact ⟨_, rfl, by rw [PE.out]; simpa using HO11.out, HB11.out⟩

end Go.Proofs.YtjcmolbaanedaaaDoor.XFnExactErrorOf
