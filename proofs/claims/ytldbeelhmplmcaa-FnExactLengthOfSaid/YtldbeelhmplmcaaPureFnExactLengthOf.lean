/- The law of LengthOf answers true for all triples of integers; no further condition. -/
import Derived.Test.YtldbeelhmplmcaaPFnExactLengthOfx1
namespace Go.Proofs.Ytldbeelhmplmcaa.Pure
open Go.RowKit Go.Proofs.Ytldbeelhmplmcaa.PFnExactLengthOf Go.Proofs.YtldbeelhmplmcaaW.PrintWords Go.Proofs.YtldbeelhmplmcaaW.PrintLast

theorem l1In_eq (a b c : Int) : spec_l1In.f a b c = some (decide (b ≤ a ∧ a ≤ c)) := by
  unfold spec_l1In.f
  by_cases h : a ≥ b
  · rw [if_pos h]
    have h' : b ≤ a := h
    simp [h']
  · rw [if_neg h]
    have h' : ¬ b ≤ a := h
    simp [h']

theorem within_eq (a b c : Int) : impl_within.f a b c = some (decide (b ≤ a ∧ a ≤ c)) := by
  unfold impl_within.f
  by_cases h : a ≥ b
  · rw [if_pos h]
    have h' : b ≤ a := h
    simp [h']
  · rw [if_neg h]
    have h' : ¬ b ≤ a := h
    simp [h']

theorem w64 {x : Int} (h0 : -9223372036854775808 ≤ x) (h1 : x ≤ 9223372036854775807) : wrap64 x = x := by
  unfold wrap64
  omega

theorem td {x y : Int} (h : 0 ≤ x) : Int.tdiv x y = x / y := Int.tdiv_eq_ediv_of_nonneg h
theorem tm {x y : Int} (h : 0 ≤ x) : Int.tmod x y = x % y := Int.tmod_eq_emod_of_nonneg h

theorem sq_le {a b : Int} (h0 : 0 ≤ a) (h : a ≤ b) : a * a ≤ b * b := Int.mul_le_mul h h h0 (by omega)
theorem sq_lt {a b : Int} (_h0 : 0 ≤ a) (hb : 0 ≤ b) (h : a * a < (b + 1) * (b + 1)) : a ≤ b := by
  by_cases c : a ≤ b
  · exact c
  · have := sq_le (a := b + 1) (b := a) (by omega) (by omega)
    omega
theorem root_unique {x r s : Int} (h0 : 0 ≤ r) (h1 : r * r ≤ x) (h2 : x < (r + 1) * (r + 1)) (k0 : 0 ≤ s) (k1 : s * s ≤ x) (k2 : x < (s + 1) * (s + 1)) : r = s := by
  have a := sq_lt h0 k0 (by omega)
  have b := sq_lt k0 h0 (by omega)
  omega
theorem mid {lo hi : Int} (h0 : 0 ≤ lo) (h1 : lo < hi) (h2 : hi ≤ 400000) : wrap64 (Int.tdiv (wrap64 ((wrap64 (lo + hi)) + 1)) 2) = (lo + hi + 1) / 2 := by
  rw [w64 (x := lo + hi) (by omega) (by omega), w64 (x := lo + hi + 1) (by omega) (by omega), td (by omega), w64 (by omega) (by omega)]
theorem sq_bound {m : Int} (h0 : 0 ≤ m) (h1 : m ≤ 400000) : wrap64 (m * m) = m * m := by
  have := sq_le h0 h1
  have := Int.mul_nonneg h0 h0
  exact w64 (by omega) (by omega)
theorem root_tells (x : Int) (d : Nat) : ∀ (k : Nat) (lo hi : Int), 0 ≤ lo → lo ≤ hi → hi ≤ 400000 → hi - lo ≤ d → d < k → lo * lo ≤ x → x < (hi + 1) * (hi + 1) →
    (∃ r, impl_root.l0 k x lo hi = some r ∧ 0 ≤ r ∧ r * r ≤ x ∧ x < (r + 1) * (r + 1)) ∧ (∃ r, spec_LengthOf.l0 k x lo hi = some (r, true) ∧ 0 ≤ r ∧ r * r ≤ x ∧ x < (r + 1) * (r + 1)) := by
  induction d with
  | zero =>
    intro k lo hi h0 h1 h2 hd hk hl hh
    obtain ⟨k, rfl⟩ : ∃ m, k = m + 1 := ⟨k - 1, by omega⟩
    obtain rfl : lo = hi := by omega
    refine ⟨⟨lo, ?_, h0, hl, hh⟩, ⟨lo, ?_, h0, hl, hh⟩⟩
    · simp only [impl_root.l0]; rw [if_neg (by omega)]
    · simp only [spec_LengthOf.l0]; rw [if_neg (by omega)]
  | succ d ih =>
    intro k lo hi h0 h1 h2 hd hk hl hh
    obtain ⟨k, rfl⟩ : ∃ m, k = m + 1 := ⟨k - 1, by omega⟩
    by_cases e : lo = hi
    · subst e
      refine ⟨⟨lo, ?_, h0, hl, hh⟩, ⟨lo, ?_, h0, hl, hh⟩⟩
      · simp only [impl_root.l0]; rw [if_neg (by omega)]
      · simp only [spec_LengthOf.l0]; rw [if_neg (by omega)]
    · have hlt : lo < hi := by omega
      have em := mid h0 hlt h2
      have b0 : lo < (lo + hi + 1) / 2 := by omega
      have b1 : (lo + hi + 1) / 2 ≤ hi := by omega
      simp only [impl_root.l0, spec_LengthOf.l0]
      rw [if_pos hlt, if_pos hlt, em]
      have es := sq_bound (m := (lo + hi + 1) / 2) (by omega) (by omega)
      have ew : wrap64 ((lo + hi + 1) / 2 - 1) = (lo + hi + 1) / 2 - 1 := w64 (by omega) (by omega)
      rw [es, ew]
      by_cases c : (lo + hi + 1) / 2 * ((lo + hi + 1) / 2) ≤ x
      · rw [if_pos c, if_pos c]
        exact ih k _ _ (by omega) b1 h2 (by omega) (by omega) c hh
      · rw [if_neg c, if_neg c]
        refine ih k _ _ h0 (by omega) (by omega) (by omega) (by omega) hl ?_
        rw [show (lo + hi + 1) / 2 - 1 + 1 = (lo + hi + 1) / 2 by omega]
        omega
theorem sq_long {a : Int} (h : -100000 ≤ a ∧ a ≤ 100000) : 0 ≤ a * a ∧ a * a ≤ 10000000000 := by
  by_cases c : 0 ≤ a
  · exact ⟨Int.mul_nonneg c c, sq_le c h.2⟩
  · have := sq_le (a := -a) (b := 100000) (by omega) (by omega)
    have k : -a * -a = a * a := Int.neg_mul_neg a a
    have := Int.mul_nonneg (a := -a) (b := -a) (by omega) (by omega)
    omega
theorem FnExactLengthOf : laws_FnExactLengthOf.Pure := by
  intro a b c _ _ _
  refine ⟨400003, ?_⟩
  unfold laws_FnExactLengthOf.f spec_LengthOf.f impl_LengthOf.f spec_l2Long.f impl_isLength.f
  simp only [l1In_eq, within_eq, Option.bind_some]
  by_cases ca : -100000 ≤ a ∧ a ≤ 100000
  · by_cases cb : -100000 ≤ b ∧ b ≤ 100000
    · by_cases cc : -100000 ≤ c ∧ c ≤ 100000
      · have ha := sq_long ca
        have hb := sq_long cb
        have hc := sq_long cc
        have wa : wrap64 (a * a) = a * a := w64 (by omega) (by omega)
        have wb : wrap64 (b * b) = b * b := w64 (by omega) (by omega)
        have wc : wrap64 (c * c) = c * c := w64 (by omega) (by omega)
        have w1 : wrap64 (a * a + b * b) = a * a + b * b := w64 (by omega) (by omega)
        have w2 : wrap64 (a * a + b * b + c * c) = a * a + b * b + c * c := w64 (by omega) (by omega)
        obtain ⟨⟨r, e1, r0, r1, r2⟩, _⟩ := root_tells (a * a + b * b + c * c) 400001 400003 0 400000 (by omega) (by omega) (by omega) (by omega) (by omega) (by omega) (by omega)
        obtain ⟨_, ⟨s, e2, s0, s1, s2⟩⟩ := root_tells (a * a + b * b + c * c) 400001 400002 0 200000 (by omega) (by omega) (by omega) (by omega) (by omega) (by omega) (by omega)
        obtain rfl := root_unique r0 r1 r2 s0 s1 s2
        simp only [ca, cb, cc, and_self, decide_true, if_true, Bool.not_true]
        have ej : spec_LengthOf.j0 400003 a b c false = some (r, true) := by
          simp only [spec_LengthOf.j0]
          simp only [Bool.false_eq_true, if_false, wa, wb, wc, w1, w2]
          exact e2
        unfold impl_root.f
        simp only [wa, wb, wc, w1, w2]
        rw [ej, e1]
        simp
      · simp [ca, cb, cc, spec_LengthOf.j0]
    · simp [ca, cb, spec_LengthOf.j0]
  · simp [ca, spec_LengthOf.j0]
end Go.Proofs.Ytldbeelhmplmcaa.Pure
