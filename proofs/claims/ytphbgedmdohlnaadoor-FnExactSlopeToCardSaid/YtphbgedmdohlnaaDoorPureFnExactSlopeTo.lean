/- The pure statement of the law of SlopeTo: true for every two integers; no condition. -/
import Derived.Test.YtphbgedmdohlnaaDoorAskFnExactSlopeTo
namespace Go.Proofs.YtphbgedmdohlnaaDoor.Pure
open Go.RowKit Go.Proofs.YtphbgedmdohlnaaDoor.XFnExactSlopeTo Go.Proofs.YtphbgedmdohlnaaDoor.AskFnExactSlopeTo Go.Proofs.YtphbgedmdohlnaaDoorW.PrintWords Go.Proofs.YtphbgedmdohlnaaDoorW.PrintLast
set_option linter.unusedVariables false
set_option linter.unusedSimpArgs false

theorem l1In_eq (a b c : Int) : spec_l1In.f a b c = some (decide (b ≤ a ∧ a ≤ c)) := by
  unfold spec_l1In.f
  by_cases h : a ≥ b
  · rw [if_pos h]
    have h' : b ≤ a := h
    simp [h']
  · rw [if_neg h]
    have h' : ¬ b ≤ a := h
    simp [h']

theorem within_eq (a b c : Int) : impl_within.f a b c = some (decide (b ≤ a ∧ a ≤ c)) := by
  unfold impl_within.f
  by_cases h : a ≥ b
  · rw [if_pos h]
    have h' : b ≤ a := h
    simp [h']
  · rw [if_neg h]
    have h' : ¬ b ≤ a := h
    simp [h']

theorem w64 {x : Int} (h0 : -9223372036854775808 ≤ x) (h1 : x ≤ 9223372036854775807) : wrap64 x = x := by
  unfold wrap64
  omega

theorem td {x y : Int} (h : 0 ≤ x) : Int.tdiv x y = x / y := Int.tdiv_eq_ediv_of_nonneg h
theorem tm {x y : Int} (h : 0 ≤ x) : Int.tmod x y = x % y := Int.tmod_eq_emod_of_nonneg h

/-- An entry of the table. -/
def T_ (i : Int) : Int := sineTab.getD i.toNat 0
/-- The sine of any angle. -/
def sn (d : Int) : Int := if d % 360 ≤ 90 then T_ (d % 360) else if d % 360 ≤ 180 then T_ (180 - d % 360) else if d % 360 ≤ 270 then -T_ (d % 360 - 180) else -T_ (360 - d % 360)
theorem T_bound (i : Int) : 0 ≤ T_ i ∧ T_ i ≤ 1000 := by
  have h : ∀ x ∈ sineTab, 0 ≤ x ∧ x ≤ 1000 := by decide
  unfold T_
  rw [List.getD_eq_getElem?_getD]
  cases e : sineTab[i.toNat]? with
  | none => simp
  | some x => exact h x (List.mem_of_getElem? e)
theorem sn_bound (d : Int) : -1000 ≤ sn d ∧ sn d ≤ 1000 := by
  unfold sn
  have h1 := T_bound (d % 360)
  have h2 := T_bound (180 - d % 360)
  have h3 := T_bound (d % 360 - 180)
  have h4 := T_bound (360 - d % 360)
  split
  · omega
  · split
    · omega
    · split <;> omega
theorem md_eq (x : Int) : Int.tmod (wrap64 (Int.tmod x 360 + 360)) 360 = x % 360 := by
  by_cases h : 0 ≤ x
  · have e0 : Int.tmod x 360 = x % 360 := tm h
    have e1 : wrap64 (x % 360 + 360) = x % 360 + 360 := w64 (by omega) (by omega)
    rw [e0, e1, tm (x := x % 360 + 360) (by omega)]
    omega
  · have e0 : Int.tmod x 360 = -(-x % 360) := by
      have h := Int.neg_tmod (-x) 360
      rw [Int.neg_neg, tm (x := -x) (by omega)] at h
      exact h
    have e1 : wrap64 (-(-x % 360) + 360) = -(-x % 360) + 360 := w64 (by omega) (by omega)
    rw [e0, e1, tm (x := -(-x % 360) + 360) (by omega)]
    omega
theorem table_at {i : Int} (h0 : 0 ≤ i) (h1 : i < 91) : (spec_l2Table.f).bind (fun t => if 0 ≤ i then (if i < (t.length : Int) then some (rd t i) else none) else none) = some (T_ i) := by
  unfold spec_l2Table.f
  simp only [Option.bind_some]
  rw [if_pos h0, if_pos (by simpa using h1)]
  rfl
theorem table_neg {i : Int} (h0 : 0 ≤ i) (h1 : i < 91) : (spec_l2Table.f).bind (fun t => if 0 ≤ i then (if i < (t.length : Int) then some (wrap64 (-(rd t i))) else none) else none) = some (-T_ i) := by
  have hb := T_bound i
  unfold spec_l2Table.f
  simp only [Option.bind_some]
  rw [if_pos h0, if_pos (by simpa using h1)]
  exact congrArg some (w64 (x := -T_ i) (by omega) (by omega))
theorem specSine_eq (d : Int) : spec_l2Sine.f d = some (sn d) := by
  unfold spec_l2Sine.f sn
  rw [md_eq]
  have h0 : 0 ≤ d % 360 := by omega
  have h1 : d % 360 < 360 := by omega
  generalize d % 360 = m at *
  have e1 : wrap64 (180 - m) = 180 - m := w64 (by omega) (by omega)
  have e2 : wrap64 (m - 180) = m - 180 := w64 (by omega) (by omega)
  have e3 : wrap64 (360 - m) = 360 - m := w64 (by omega) (by omega)
  rw [e1, e2, e3]
  by_cases c1 : m ≤ 90
  · rw [if_pos c1, if_pos c1]; exact table_at h0 (by omega)
  · rw [if_neg c1, if_neg c1]
    by_cases c2 : m ≤ 180
    · rw [if_pos c2, if_pos c2]; exact table_at (by omega) (by omega)
    · rw [if_neg c2, if_neg c2]
      by_cases c3 : m ≤ 270
      · rw [if_pos c3, if_pos c3]; exact table_neg (by omega) (by omega)
      · rw [if_neg c3, if_neg c3]; exact table_neg (by omega) (by omega)
theorem implSine_eq (d : Int) : impl_sine.f d = some (sn d) := by
  unfold impl_sine.f impl_modulo.f sn
  rw [if_neg (by omega), md_eq]
  simp only [Option.bind_some]
  have h0 : 0 ≤ d % 360 := by omega
  have h1 : d % 360 < 360 := by omega
  generalize d % 360 = m at *
  have b1 := T_bound (m - 180)
  have b2 := T_bound (360 - m)
  rw [if_pos ⟨h0, h1⟩]
  by_cases c1 : m ≤ 90
  · rw [if_pos (by omega), if_pos c1]; unfold sineLow; rw [if_pos c1]; rfl
  · rw [if_neg c1]
    by_cases c2 : m ≤ 180
    · rw [if_pos c2, if_pos c2]; unfold sineLow; rw [if_neg c1]; rfl
    · rw [if_neg c2, if_neg c2]
      by_cases c3 : m ≤ 270
      · have e : sineLow (m - 180) = T_ (m - 180) := by unfold sineLow; rw [if_pos (by omega)]; rfl
        rw [if_pos c3, e, w64 (x := -T_ (m - 180)) (by omega) (by omega)]
      · have e : sineLow (m - 180) = T_ (360 - m) := by unfold sineLow; rw [if_neg (by omega), show 180 - (m - 180) = 360 - m by omega]; rfl
        rw [if_neg c3, e, w64 (x := -T_ (360 - m)) (by omega) (by omega)]

theorem specCos_eq {d : Int} (h0 : -1000000 ≤ d) (h1 : d ≤ 1000000) : spec_l2Cosine.f d = some (sn (d + 90)) := by
  unfold spec_l2Cosine.f
  rw [w64 (x := d + 90) (by omega) (by omega), specSine_eq]
  rfl
theorem implCos_eq {d : Int} (h0 : -1000000 ≤ d) (h1 : d ≤ 1000000) : impl_cosine.f d = some (sn (d + 90)) := by
  unfold impl_cosine.f
  rw [w64 (x := d + 90) (by omega) (by omega), implSine_eq]
  rfl

/-- What a slope is worth. -/
def sval (l u s : Int) : Int := wrap64 (wrap64 (l * sn (s + 90)) + wrap64 (u * sn s))
theorem cos_even {s : Int} (h0 : 0 ≤ s) (h1 : s ≤ 90) : sn (-s + 90) = sn (s + 90) := by
  unfold sn
  have e1 : (-s + 90) % 360 = 90 - s := by omega
  have e2 : (s + 90) % 360 = s + 90 := by omega
  rw [e1, e2, if_pos (by omega)]
  by_cases c : s = 0
  · subst c; rfl
  · rw [if_neg (by omega), if_pos (by omega), show 180 - (s + 90) = 90 - s by omega]
def sstep (l u b c : Int) : Int := if sval l u c > sval l u b then c else b
/-- The slope that is picked from s on, with the best so far. -/
def spick (l u : Int) : Nat → Int → Int → Int
  | 0, _, b => b
  | d + 1, s, b => spick l u d (s + 1) (sstep l u (sstep l u b s) (-s))
theorem sstep_range {l u b c : Int} (h0 : -90 ≤ b) (h1 : b ≤ 90) (k0 : -90 ≤ c) (k1 : c ≤ 90) : -90 ≤ sstep l u b c ∧ sstep l u b c ≤ 90 := by
  unfold sstep
  split <;> omega
theorem sstep_val (l u b c : Int) : (if sval l u c > sval l u b then sval l u c else sval l u b) = sval l u (sstep l u b c) := by
  unfold sstep
  split <;> rfl
theorem specSlope_pair (l u : Int) (k : Nat) (s o : Int) (h1 : 1 ≤ s) (hs : s ≤ 90) (h0 : -90 ≤ o) (h2 : o ≤ 90) :
    spec_SlopeTo.l0 (k + 4) l u o s = spec_SlopeTo.l0 k l u (sstep l u (sstep l u o s) (-s)) (s + 1) := by
  have w1 : wrap64 (1 * s) = s := (w64 (by omega) (by omega)).trans (by omega)
  have w2 : wrap64 (-1 * s) = -s := (w64 (by omega) (by omega)).trans (by omega)
  have w3 : wrap64 (s + 1) = s + 1 := w64 (by omega) (by omega)
  have w4 : wrap64 (1 - 2) = -1 := (w64 (by omega) (by omega)).trans (by omega)
  have w5 : wrap64 (-1 - 2) = -3 := (w64 (by omega) (by omega)).trans (by omega)
  obtain ⟨r0, r1⟩ := sstep_range (l := l) (u := u) (b := o) (c := s) h0 h2 (by omega) hs
  have ev : ∀ x : Int, wrap64 (wrap64 (l * sn (x + 90)) + wrap64 (u * sn x)) = sval l u x := fun _ => rfl
  have en : wrap64 (wrap64 (l * sn (s + 90)) + wrap64 (u * sn (-s))) = sval l u (-s) := by unfold sval; rw [cos_even (by omega) hs]
  have step1 : spec_SlopeTo.l0 (k + 4) l u o s = spec_SlopeTo.l1 (k + 2) l u (sstep l u o s) s (-1) := by
    rw [spec_SlopeTo.l0, if_pos hs, spec_SlopeTo.l1, if_pos (by omega), specCos_eq (by omega) (by omega), w1, specSine_eq]
    simp only [Option.bind_some]
    rw [specCos_eq (by omega) (by omega), specSine_eq]
    simp only [Option.bind_some, ev, w4]
    unfold sstep
    split <;> rfl
  have step2 : spec_SlopeTo.l1 (k + 2) l u (sstep l u o s) s (-1) = spec_SlopeTo.l1 (k + 1) l u (sstep l u (sstep l u o s) (-s)) s (-3) := by
    generalize sstep l u o s = b at *
    rw [spec_SlopeTo.l1, if_pos (by omega), specCos_eq (by omega) (by omega), w2, specSine_eq]
    simp only [Option.bind_some]
    rw [specCos_eq (by omega) (by omega), specSine_eq]
    simp only [Option.bind_some, ev, en, w5]
    unfold sstep
    split <;> rfl
  rw [step1, step2, spec_SlopeTo.l1, if_neg (by omega), w3]
theorem implSlope_pair (l u : Int) (k : Nat) (s o : Int) (h1 : 1 ≤ s) (hs : s ≤ 90) :
    impl_slopeTo.l0 (k + 4) l u o (sval l u o) s = impl_slopeTo.l0 k l u (sstep l u (sstep l u o s) (-s)) (sval l u (sstep l u (sstep l u o s) (-s))) (s + 1) := by
  have w0 : wrap64 (-s) = -s := w64 (by omega) (by omega)
  have w3 : wrap64 (s + 1) = s + 1 := w64 (by omega) (by omega)
  have w4 : wrap64 (0 + 1) = 1 := (w64 (by omega) (by omega)).trans (by omega)
  have w5 : wrap64 (1 + 1) = 2 := (w64 (by omega) (by omega)).trans (by omega)
  have ev : ∀ x : Int, wrap64 (wrap64 (l * sn (x + 90)) + wrap64 (u * sn x)) = sval l u x := fun _ => rfl
  have q0 : rd [s, -s] 0 = s := rfl
  have q1 : rd [s, -s] 1 = -s := rfl
  have hl : (([s, -s] : List Int).length : Int) = 2 := rfl
  have step1 : ∀ b k, impl_slopeTo.l1 (k + 1) l u b (sval l u b) s [s, -s] 2 0 = impl_slopeTo.l1 k l u (sstep l u b s) (sval l u (sstep l u b s)) s [s, -s] 2 1 := by
    intro b k
    rw [impl_slopeTo.l1, if_pos (by omega), if_pos (by omega), hl, if_pos (by omega), q0, implCos_eq (by omega) (by omega), implSine_eq]
    simp only [Option.bind_some, ev, w4]
    unfold sstep
    split <;> rfl
  have step2 : ∀ b k, impl_slopeTo.l1 (k + 1) l u b (sval l u b) s [s, -s] 2 1 = impl_slopeTo.l1 k l u (sstep l u b (-s)) (sval l u (sstep l u b (-s))) s [s, -s] 2 2 := by
    intro b k
    rw [impl_slopeTo.l1, if_pos (by omega), if_pos (by omega), hl, if_pos (by omega), q1, implCos_eq (by omega) (by omega), implSine_eq]
    simp only [Option.bind_some, ev, w5]
    unfold sstep
    split <;> rfl
  rw [impl_slopeTo.l0, if_pos hs, w0]
  simp only [Option.bind_some, hl]
  rw [step1, step2, impl_slopeTo.l1, if_neg (by omega), w3]
theorem slope_loops (l u : Int) : ∀ (d k : Nat) (s o : Int), s + d = 91 → 1 ≤ s → -90 ≤ o → o ≤ 90 → 4 * d + 1 ≤ k →
    spec_SlopeTo.l0 k l u o s = some (spick l u d s o, true) ∧ impl_slopeTo.l0 k l u o (sval l u o) s = some (spick l u d s o)
  | 0, k, s, o, hs, h1, h0, h2, hk => by
    obtain ⟨k, rfl⟩ : ∃ m, k = m + 1 := ⟨k - 1, by omega⟩
    refine ⟨?_, ?_⟩
    · simp only [spec_SlopeTo.l0]; rw [if_neg (by omega)]; rfl
    · simp only [impl_slopeTo.l0]; rw [if_neg (by omega)]; rfl
  | d + 1, k, s, o, hs, h1, h0, h2, hk => by
    obtain ⟨k, rfl⟩ : ∃ m, k = m + 4 := ⟨k - 4, by omega⟩
    rw [specSlope_pair l u k s o h1 (by omega) h0 h2, implSlope_pair l u k s o h1 (by omega)]
    obtain ⟨a0, a1⟩ := sstep_range (l := l) (u := u) (b := o) (c := s) h0 h2 (by omega) (by omega)
    obtain ⟨b0, b1⟩ := sstep_range (l := l) (u := u) (b := sstep l u o s) (c := -s) a0 a1 (by omega) (by omega)
    exact slope_loops l u d k (s + 1) _ (by omega) (by omega) b0 b1 (by omega)
theorem spick_range (l u : Int) : ∀ (d : Nat) (s o : Int), s + d = 91 → 1 ≤ s → -90 ≤ o → o ≤ 90 → -90 ≤ spick l u d s o ∧ spick l u d s o ≤ 90
  | 0, s, o, hs, h1, h0, h2 => ⟨h0, h2⟩
  | d + 1, s, o, hs, h1, h0, h2 => by
    obtain ⟨a0, a1⟩ := sstep_range (l := l) (u := u) (b := o) (c := s) h0 h2 (by omega) (by omega)
    obtain ⟨b0, b1⟩ := sstep_range (l := l) (u := u) (b := sstep l u o s) (c := -s) a0 a1 (by omega) (by omega)
    exact spick_range l u d (s + 1) _ (by omega) (by omega) b0 b1
theorem slope_eq (l u : Int) : ∃ r, (∀ k, 370 < k → spec_SlopeTo.f k l u = some r ∧ impl_SlopeTo.f k l u = some r) ∧
    ((¬ ((0 ≤ l ∧ l ≤ 100000) ∧ (-100000 ≤ u ∧ u ≤ 100000) ∧ (l ≠ 0 ∨ u ≠ 0)) ∧ r = (0, false)) ∨ (((0 ≤ l ∧ l ≤ 100000) ∧ (-100000 ≤ u ∧ u ≤ 100000) ∧ (l ≠ 0 ∨ u ≠ 0)) ∧ r = (spick l u 90 1 0, true))) := by
  unfold spec_SlopeTo.f impl_SlopeTo.f spec_l2Long.f impl_isLength.f
  simp only [l1In_eq, within_eq, Option.bind_some]
  by_cases h : (0 ≤ l ∧ l ≤ 100000) ∧ (-100000 ≤ u ∧ u ≤ 100000) ∧ (l ≠ 0 ∨ u ≠ 0)
  · obtain ⟨ce, cn, cz⟩ := h
    refine ⟨(spick l u 90 1 0, true), fun k hk => ?_, .inr ⟨⟨ce, cn, cz⟩, rfl⟩⟩
    obtain ⟨k, rfl⟩ : ∃ m, k = m + 1 := ⟨k - 1, by omega⟩
    have e0 : sval l u 0 = wrap64 (l * 1000) := by
      have a1 : sn (0 + 90) = 1000 := rfl
      have a2 : sn 0 = 0 := rfl
      unfold sval
      rw [a1, a2, Int.mul_zero, w64 (x := l * 1000) (by omega) (by omega), w64 (x := 0) (by omega) (by omega), Int.add_zero, w64 (x := l * 1000) (by omega) (by omega)]
    have hi : impl_slopeTo.f (k + 1) l u = some (spick l u 90 1 0) := by
      unfold impl_slopeTo.f
      rw [← e0]
      exact (slope_loops l u 90 (k + 1) 1 0 (by omega) (by omega) (by omega) (by omega) (by omega)).2
    have hs : spec_SlopeTo.j0 (k + 1) l u false = some (spick l u 90 1 0, true) := by
      simp only [spec_SlopeTo.j0, Bool.false_eq_true, if_false]
      exact (slope_loops l u 90 k 1 0 (by omega) (by omega) (by omega) (by omega) (by omega)).1
    rw [hi]
    simp only [ce, cn, and_self, decide_true, if_true, Option.bind_some]
    by_cases z : l = 0
    · have zn : ¬ u = 0 := by omega
      rw [if_pos z, if_pos z, if_neg zn, show (u == 0) = false by simp [zn], hs]
      exact ⟨rfl, rfl⟩
    · rw [if_neg z, if_neg z, hs]
      exact ⟨rfl, rfl⟩
  · refine ⟨(0, false), fun k hk => ?_, .inl ⟨h, rfl⟩⟩
    obtain ⟨k, rfl⟩ : ∃ m, k = m + 1 := ⟨k - 1, by omega⟩
    by_cases ce : 0 ≤ l ∧ l ≤ 100000
    · by_cases cn : -100000 ≤ u ∧ u ≤ 100000
      · have z : l = 0 ∧ u = 0 := by
          constructor
          · exact Decidable.byContradiction fun hz => h ⟨ce, cn, .inl hz⟩
          · exact Decidable.byContradiction fun hz => h ⟨ce, cn, .inr hz⟩
        obtain ⟨rfl, rfl⟩ := z
        simp [spec_SlopeTo.j0]
      · simp [ce, cn, spec_SlopeTo.j0]
    · simp [ce, spec_SlopeTo.j0]

theorem FnExactSlopeTo : Asked := by
  intro l u _ _
  obtain ⟨r, h, _⟩ := slope_eq l u
  refine ⟨400, ?_⟩
  unfold laws_FnExactSlopeTo.f
  simp only [(h 400 (by omega)).1, (h 400 (by omega)).2, Option.bind_some]
  simp
end Go.Proofs.YtphbgedmdohlnaaDoor.Pure
