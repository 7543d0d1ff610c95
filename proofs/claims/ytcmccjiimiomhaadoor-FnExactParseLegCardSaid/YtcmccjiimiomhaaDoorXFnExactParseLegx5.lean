/- Contracts of the functions that the law FnExactParseLeg comes to: each is told as a plain function of its arguments, and the machine's call does what that function says; no condition. Written by programs (print.py, xprint.py); Lean checks it. -/
import Derived.Test.YtcmccjiimiomhaaDoorXFnExactParseLegx0
import Derived.Test.YtcmccjiimiomhaaDoorXFnExactParseLegx4
namespace Go.Proofs.YtcmccjiimiomhaaDoor.XFnExactParseLeg
open Go.RowKit Go.Proofs.YtcmccjiimiomhaaDoorW.PrintWords Go.Proofs.YtcmccjiimiomhaaDoorW.PrintLast Go.Proofs.YtcmccjiimiomhaaDoorW.PrintMore
attribute [local go_sem] max2_int min2_int max_two min_two max_three min_three max_four min_four   -- for this text's walks alone
set_option linter.unusedVariables false
set_option linter.unusedSimpArgs false

/-! ### impl_legText: function 36 -/
def impl_legText.f (a0_0 : Int) (a0_1 : Int) (a0_2 : Int) (a0_3 : Int) (a0_4 : Int) : Option (ByteArray) := (impl_decimal.f a0_0).bind fun t171 => (if 4 + t171.size ≤ 9223372036854775807 then (if ((⟨#[108, 101, 103, 32]⟩ : ByteArray) ++ t171).size + 1 ≤ 9223372036854775807 then ((impl_decimal.f a0_1).bind fun t172 => (if (((⟨#[108, 101, 103, 32]⟩ : ByteArray) ++ t171) ++ (⟨#[45]⟩ : ByteArray)).size + t172.size ≤ 9223372036854775807 then (if ((((⟨#[108, 101, 103, 32]⟩ : ByteArray) ++ t171) ++ (⟨#[45]⟩ : ByteArray)) ++ t172).size + 6 ≤ 9223372036854775807 then ((impl_decimal.f a0_2).bind fun t173 => (if (((((⟨#[108, 101, 103, 32]⟩ : ByteArray) ++ t171) ++ (⟨#[45]⟩ : ByteArray)) ++ t172) ++ (⟨#[32, 116, 97, 112, 101, 32]⟩ : ByteArray)).size + t173.size ≤ 9223372036854775807 then (if ((((((⟨#[108, 101, 103, 32]⟩ : ByteArray) ++ t171) ++ (⟨#[45]⟩ : ByteArray)) ++ t172) ++ (⟨#[32, 116, 97, 112, 101, 32]⟩ : ByteArray)) ++ t173).size + 9 ≤ 9223372036854775807 then ((impl_decimal.f a0_3).bind fun t174 => (if (((((((⟨#[108, 101, 103, 32]⟩ : ByteArray) ++ t171) ++ (⟨#[45]⟩ : ByteArray)) ++ t172) ++ (⟨#[32, 116, 97, 112, 101, 32]⟩ : ByteArray)) ++ t173) ++ (⟨#[32, 99, 111, 109, 112, 97, 115, 115, 32]⟩ : ByteArray)).size + t174.size ≤ 9223372036854775807 then (if ((((((((⟨#[108, 101, 103, 32]⟩ : ByteArray) ++ t171) ++ (⟨#[45]⟩ : ByteArray)) ++ t172) ++ (⟨#[32, 116, 97, 112, 101, 32]⟩ : ByteArray)) ++ t173) ++ (⟨#[32, 99, 111, 109, 112, 97, 115, 115, 32]⟩ : ByteArray)) ++ t174).size + 7 ≤ 9223372036854775807 then ((impl_decimal.f a0_4).bind fun t175 => (if (((((((((⟨#[108, 101, 103, 32]⟩ : ByteArray) ++ t171) ++ (⟨#[45]⟩ : ByteArray)) ++ t172) ++ (⟨#[32, 116, 97, 112, 101, 32]⟩ : ByteArray)) ++ t173) ++ (⟨#[32, 99, 111, 109, 112, 97, 115, 115, 32]⟩ : ByteArray)) ++ t174) ++ (⟨#[32, 115, 108, 111, 112, 101, 32]⟩ : ByteArray)).size + t175.size ≤ 9223372036854775807 then (some ((((((((((⟨#[108, 101, 103, 32]⟩ : ByteArray) ++ t171) ++ (⟨#[45]⟩ : ByteArray)) ++ t172) ++ (⟨#[32, 116, 97, 112, 101, 32]⟩ : ByteArray)) ++ t173) ++ (⟨#[32, 99, 111, 109, 112, 97, 115, 115, 32]⟩ : ByteArray)) ++ t174) ++ (⟨#[32, 115, 108, 111, 112, 101, 32]⟩ : ByteArray)) ++ t175)) else (none))) else (none)) else (none))) else (none)) else (none))) else (none)) else (none))) else (none)) else (none))
def impl_legText.T1 : Bool × List (List Nat × List Nat) := (true, [([], []), ([0], [0]), ([1], [1]), ([2], [2]), ([3], [3]), ([], []), ([5], [5]), ([6, 2], [6]), ([4, 7], [4, 7]), ([8], [8]), ([], []), ([10], [10]), ([11, 7], [11]), ([9, 12], [9, 12]), ([13], [13]), ([], []), ([15], [15]), ([16, 12], [16]), ([14, 17], [14, 17]), ([18], [18]), ([], []), ([20], [20]), ([21, 17], [21]), ([19, 22], [19, 22]), ([23, 22, 0, 1, 2, 3, 4, 5, 6, 7, 8, 9, 10, 11, 12, 13, 14, 15, 16, 17, 18, 19, 20, 21, 22, 23], [23])])
def impl_legText.B1 : List Nat := [0, 1, 3, 7, 15, 0, 32, 103, 255, 511, 0, 1024, 3303, 8191, 16383, 0, 32768, 105703, 262143, 524287, 0, 1048576, 3382503, 8388607, 16777215]
theorem impl_legText.tab1 : rtab .any (opsOf Tryd.f36 1) = impl_legText.T1 := by kernel_rfl
theorem impl_legText.bits1 : waitsOk impl_legText.T1.2 impl_legText.B1 = true := by kernel_rfl
set_option maxHeartbeats 8000000 in
set_option maxRecDepth 100000 in
theorem impl_legText.calls (a0_0 : Int) (a0_1 : Int) (a0_2 : Int) (a0_3 : Int) (a0_4 : Int) (r : ByteArray) (w : World) (hT : Tab w) (h : impl_legText.f a0_0 a0_1 a0_2 a0_3 a0_4 = some r) :
    Calls Tryd.prog 36 #[.agg #[.int .i64 a0_0, .int .i64 a0_1, .int .i64 a0_2, .int .i64 a0_3, .int .i64 a0_4]] w fun e w' => e = .returned (.string r) ∧ Below w.heap.size w w' := by
  have HT := Aside0.mk hT
  clear hT
  have hu28 := Tryd.underlying28
  have HB := Aside0.mk (Below.refl w.heap.size w)
  have H : ((impl_decimal.f a0_0).bind fun t171 => (if 4 + t171.size ≤ 9223372036854775807 then (if ((⟨#[108, 101, 103, 32]⟩ : ByteArray) ++ t171).size + 1 ≤ 9223372036854775807 then ((impl_decimal.f a0_1).bind fun t172 => (if (((⟨#[108, 101, 103, 32]⟩ : ByteArray) ++ t171) ++ (⟨#[45]⟩ : ByteArray)).size + t172.size ≤ 9223372036854775807 then (if ((((⟨#[108, 101, 103, 32]⟩ : ByteArray) ++ t171) ++ (⟨#[45]⟩ : ByteArray)) ++ t172).size + 6 ≤ 9223372036854775807 then ((impl_decimal.f a0_2).bind fun t173 => (if (((((⟨#[108, 101, 103, 32]⟩ : ByteArray) ++ t171) ++ (⟨#[45]⟩ : ByteArray)) ++ t172) ++ (⟨#[32, 116, 97, 112, 101, 32]⟩ : ByteArray)).size + t173.size ≤ 9223372036854775807 then (if ((((((⟨#[108, 101, 103, 32]⟩ : ByteArray) ++ t171) ++ (⟨#[45]⟩ : ByteArray)) ++ t172) ++ (⟨#[32, 116, 97, 112, 101, 32]⟩ : ByteArray)) ++ t173).size + 9 ≤ 9223372036854775807 then ((impl_decimal.f a0_3).bind fun t174 => (if (((((((⟨#[108, 101, 103, 32]⟩ : ByteArray) ++ t171) ++ (⟨#[45]⟩ : ByteArray)) ++ t172) ++ (⟨#[32, 116, 97, 112, 101, 32]⟩ : ByteArray)) ++ t173) ++ (⟨#[32, 99, 111, 109, 112, 97, 115, 115, 32]⟩ : ByteArray)).size + t174.size ≤ 9223372036854775807 then (if ((((((((⟨#[108, 101, 103, 32]⟩ : ByteArray) ++ t171) ++ (⟨#[45]⟩ : ByteArray)) ++ t172) ++ (⟨#[32, 116, 97, 112, 101, 32]⟩ : ByteArray)) ++ t173) ++ (⟨#[32, 99, 111, 109, 112, 97, 115, 115, 32]⟩ : ByteArray)) ++ t174).size + 7 ≤ 9223372036854775807 then ((impl_decimal.f a0_4).bind fun t175 => (if (((((((((⟨#[108, 101, 103, 32]⟩ : ByteArray) ++ t171) ++ (⟨#[45]⟩ : ByteArray)) ++ t172) ++ (⟨#[32, 116, 97, 112, 101, 32]⟩ : ByteArray)) ++ t173) ++ (⟨#[32, 99, 111, 109, 112, 97, 115, 115, 32]⟩ : ByteArray)) ++ t174) ++ (⟨#[32, 115, 108, 111, 112, 101, 32]⟩ : ByteArray)).size + t175.size ≤ 9223372036854775807 then (some ((((((((((⟨#[108, 101, 103, 32]⟩ : ByteArray) ++ t171) ++ (⟨#[45]⟩ : ByteArray)) ++ t172) ++ (⟨#[32, 116, 97, 112, 101, 32]⟩ : ByteArray)) ++ t173) ++ (⟨#[32, 99, 111, 109, 112, 97, 115, 115, 32]⟩ : ByteArray)) ++ t174) ++ (⟨#[32, 115, 108, 111, 112, 101, 32]⟩ : ByteArray)) ++ t175)) else (none))) else (none)) else (none))) else (none)) else (none))) else (none)) else (none))) else (none)) else (none))) = some r := h
  clear h
  replace H := Option.bind_eq_some_iff.mp H
  obtain ⟨t171, A20, H⟩ := H
  replace H : (if 4 + t171.size ≤ 9223372036854775807 then (if ((⟨#[108, 101, 103, 32]⟩ : ByteArray) ++ t171).size + 1 ≤ 9223372036854775807 then ((impl_decimal.f a0_1).bind fun t172 => (if (((⟨#[108, 101, 103, 32]⟩ : ByteArray) ++ t171) ++ (⟨#[45]⟩ : ByteArray)).size + t172.size ≤ 9223372036854775807 then (if ((((⟨#[108, 101, 103, 32]⟩ : ByteArray) ++ t171) ++ (⟨#[45]⟩ : ByteArray)) ++ t172).size + 6 ≤ 9223372036854775807 then ((impl_decimal.f a0_2).bind fun t173 => (if (((((⟨#[108, 101, 103, 32]⟩ : ByteArray) ++ t171) ++ (⟨#[45]⟩ : ByteArray)) ++ t172) ++ (⟨#[32, 116, 97, 112, 101, 32]⟩ : ByteArray)).size + t173.size ≤ 9223372036854775807 then (if ((((((⟨#[108, 101, 103, 32]⟩ : ByteArray) ++ t171) ++ (⟨#[45]⟩ : ByteArray)) ++ t172) ++ (⟨#[32, 116, 97, 112, 101, 32]⟩ : ByteArray)) ++ t173).size + 9 ≤ 9223372036854775807 then ((impl_decimal.f a0_3).bind fun t174 => (if (((((((⟨#[108, 101, 103, 32]⟩ : ByteArray) ++ t171) ++ (⟨#[45]⟩ : ByteArray)) ++ t172) ++ (⟨#[32, 116, 97, 112, 101, 32]⟩ : ByteArray)) ++ t173) ++ (⟨#[32, 99, 111, 109, 112, 97, 115, 115, 32]⟩ : ByteArray)).size + t174.size ≤ 9223372036854775807 then (if ((((((((⟨#[108, 101, 103, 32]⟩ : ByteArray) ++ t171) ++ (⟨#[45]⟩ : ByteArray)) ++ t172) ++ (⟨#[32, 116, 97, 112, 101, 32]⟩ : ByteArray)) ++ t173) ++ (⟨#[32, 99, 111, 109, 112, 97, 115, 115, 32]⟩ : ByteArray)) ++ t174).size + 7 ≤ 9223372036854775807 then ((impl_decimal.f a0_4).bind fun t175 => (if (((((((((⟨#[108, 101, 103, 32]⟩ : ByteArray) ++ t171) ++ (⟨#[45]⟩ : ByteArray)) ++ t172) ++ (⟨#[32, 116, 97, 112, 101, 32]⟩ : ByteArray)) ++ t173) ++ (⟨#[32, 99, 111, 109, 112, 97, 115, 115, 32]⟩ : ByteArray)) ++ t174) ++ (⟨#[32, 115, 108, 111, 112, 101, 32]⟩ : ByteArray)).size + t175.size ≤ 9223372036854775807 then (some ((((((((((⟨#[108, 101, 103, 32]⟩ : ByteArray) ++ t171) ++ (⟨#[45]⟩ : ByteArray)) ++ t172) ++ (⟨#[32, 116, 97, 112, 101, 32]⟩ : ByteArray)) ++ t173) ++ (⟨#[32, 99, 111, 109, 112, 97, 115, 115, 32]⟩ : ByteArray)) ++ t174) ++ (⟨#[32, 115, 108, 111, 112, 101, 32]⟩ : ByteArray)) ++ t175)) else (none))) else (none)) else (none))) else (none)) else (none))) else (none)) else (none))) else (none)) else (none)) = some r := H
  have A2 := Aside0.mk A20
  clear A20
  by_cases c3 : 4 + t171.size ≤ 9223372036854775807
  · rw [if_pos c3] at H
    have c3b0 := eq_true c3
    have c3b1 : decide (4 + t171.size ≤ 9223372036854775807) = true := decide_eq_true c3
    try have c3b2 : (9223372036854775807 < 4 + t171.size) = False := eq_false (Nat.not_lt.2 c3)
    by_cases c4 : ((⟨#[108, 101, 103, 32]⟩ : ByteArray) ++ t171).size + 1 ≤ 9223372036854775807
    · rw [if_pos c4] at H
      have c4b0 := eq_true c4
      have c4b1 : decide (((⟨#[108, 101, 103, 32]⟩ : ByteArray) ++ t171).size + 1 ≤ 9223372036854775807) = true := decide_eq_true c4
      try have c4b2 : (9223372036854775807 < ((⟨#[108, 101, 103, 32]⟩ : ByteArray) ++ t171).size + 1) = False := eq_false (Nat.not_lt.2 c4)
      (try have c4b6 : (9223372036854775807 < 4 + t171.size + 1) = False := eq_false (by have h_ := c4; have hz0_ : (⟨#[108, 101, 103, 32]⟩ : ByteArray).size = 4 := rfl; simp only [ByteArray.size_append, hz0_] at h_; omega))
      replace H := Option.bind_eq_some_iff.mp H
      obtain ⟨t172, A50, H⟩ := H
      replace H : (if (((⟨#[108, 101, 103, 32]⟩ : ByteArray) ++ t171) ++ (⟨#[45]⟩ : ByteArray)).size + t172.size ≤ 9223372036854775807 then (if ((((⟨#[108, 101, 103, 32]⟩ : ByteArray) ++ t171) ++ (⟨#[45]⟩ : ByteArray)) ++ t172).size + 6 ≤ 9223372036854775807 then ((impl_decimal.f a0_2).bind fun t173 => (if (((((⟨#[108, 101, 103, 32]⟩ : ByteArray) ++ t171) ++ (⟨#[45]⟩ : ByteArray)) ++ t172) ++ (⟨#[32, 116, 97, 112, 101, 32]⟩ : ByteArray)).size + t173.size ≤ 9223372036854775807 then (if ((((((⟨#[108, 101, 103, 32]⟩ : ByteArray) ++ t171) ++ (⟨#[45]⟩ : ByteArray)) ++ t172) ++ (⟨#[32, 116, 97, 112, 101, 32]⟩ : ByteArray)) ++ t173).size + 9 ≤ 9223372036854775807 then ((impl_decimal.f a0_3).bind fun t174 => (if (((((((⟨#[108, 101, 103, 32]⟩ : ByteArray) ++ t171) ++ (⟨#[45]⟩ : ByteArray)) ++ t172) ++ (⟨#[32, 116, 97, 112, 101, 32]⟩ : ByteArray)) ++ t173) ++ (⟨#[32, 99, 111, 109, 112, 97, 115, 115, 32]⟩ : ByteArray)).size + t174.size ≤ 9223372036854775807 then (if ((((((((⟨#[108, 101, 103, 32]⟩ : ByteArray) ++ t171) ++ (⟨#[45]⟩ : ByteArray)) ++ t172) ++ (⟨#[32, 116, 97, 112, 101, 32]⟩ : ByteArray)) ++ t173) ++ (⟨#[32, 99, 111, 109, 112, 97, 115, 115, 32]⟩ : ByteArray)) ++ t174).size + 7 ≤ 9223372036854775807 then ((impl_decimal.f a0_4).bind fun t175 => (if (((((((((⟨#[108, 101, 103, 32]⟩ : ByteArray) ++ t171) ++ (⟨#[45]⟩ : ByteArray)) ++ t172) ++ (⟨#[32, 116, 97, 112, 101, 32]⟩ : ByteArray)) ++ t173) ++ (⟨#[32, 99, 111, 109, 112, 97, 115, 115, 32]⟩ : ByteArray)) ++ t174) ++ (⟨#[32, 115, 108, 111, 112, 101, 32]⟩ : ByteArray)).size + t175.size ≤ 9223372036854775807 then (some ((((((((((⟨#[108, 101, 103, 32]⟩ : ByteArray) ++ t171) ++ (⟨#[45]⟩ : ByteArray)) ++ t172) ++ (⟨#[32, 116, 97, 112, 101, 32]⟩ : ByteArray)) ++ t173) ++ (⟨#[32, 99, 111, 109, 112, 97, 115, 115, 32]⟩ : ByteArray)) ++ t174) ++ (⟨#[32, 115, 108, 111, 112, 101, 32]⟩ : ByteArray)) ++ t175)) else (none))) else (none)) else (none))) else (none)) else (none))) else (none)) else (none)) = some r := H
      have A5 := Aside0.mk A50
      clear A50
      by_cases c6 : (((⟨#[108, 101, 103, 32]⟩ : ByteArray) ++ t171) ++ (⟨#[45]⟩ : ByteArray)).size + t172.size ≤ 9223372036854775807
      · rw [if_pos c6] at H
        have c6b0 := eq_true c6
        have c6b1 : decide ((((⟨#[108, 101, 103, 32]⟩ : ByteArray) ++ t171) ++ (⟨#[45]⟩ : ByteArray)).size + t172.size ≤ 9223372036854775807) = true := decide_eq_true c6
        try have c6b2 : (9223372036854775807 < (((⟨#[108, 101, 103, 32]⟩ : ByteArray) ++ t171) ++ (⟨#[45]⟩ : ByteArray)).size + t172.size) = False := eq_false (Nat.not_lt.2 c6)
        (try have c6b6 : (9223372036854775807 < 4 + t171.size + 1 + t172.size) = False := eq_false (by have h_ := c6; have hz0_ : (⟨#[108, 101, 103, 32]⟩ : ByteArray).size = 4 := rfl; have hz1_ : (⟨#[45]⟩ : ByteArray).size = 1 := rfl; simp only [ByteArray.size_append, hz0_, hz1_] at h_; omega))
        by_cases c7 : ((((⟨#[108, 101, 103, 32]⟩ : ByteArray) ++ t171) ++ (⟨#[45]⟩ : ByteArray)) ++ t172).size + 6 ≤ 9223372036854775807
        · rw [if_pos c7] at H
          have c7b0 := eq_true c7
          have c7b1 : decide (((((⟨#[108, 101, 103, 32]⟩ : ByteArray) ++ t171) ++ (⟨#[45]⟩ : ByteArray)) ++ t172).size + 6 ≤ 9223372036854775807) = true := decide_eq_true c7
          try have c7b2 : (9223372036854775807 < ((((⟨#[108, 101, 103, 32]⟩ : ByteArray) ++ t171) ++ (⟨#[45]⟩ : ByteArray)) ++ t172).size + 6) = False := eq_false (Nat.not_lt.2 c7)
          (try have c7b6 : (9223372036854775807 < 4 + t171.size + 1 + t172.size + 6) = False := eq_false (by have h_ := c7; have hz0_ : (⟨#[108, 101, 103, 32]⟩ : ByteArray).size = 4 := rfl; have hz1_ : (⟨#[45]⟩ : ByteArray).size = 1 := rfl; simp only [ByteArray.size_append, hz0_, hz1_] at h_; omega))
          replace H := Option.bind_eq_some_iff.mp H
          obtain ⟨t173, A80, H⟩ := H
          replace H : (if (((((⟨#[108, 101, 103, 32]⟩ : ByteArray) ++ t171) ++ (⟨#[45]⟩ : ByteArray)) ++ t172) ++ (⟨#[32, 116, 97, 112, 101, 32]⟩ : ByteArray)).size + t173.size ≤ 9223372036854775807 then (if ((((((⟨#[108, 101, 103, 32]⟩ : ByteArray) ++ t171) ++ (⟨#[45]⟩ : ByteArray)) ++ t172) ++ (⟨#[32, 116, 97, 112, 101, 32]⟩ : ByteArray)) ++ t173).size + 9 ≤ 9223372036854775807 then ((impl_decimal.f a0_3).bind fun t174 => (if (((((((⟨#[108, 101, 103, 32]⟩ : ByteArray) ++ t171) ++ (⟨#[45]⟩ : ByteArray)) ++ t172) ++ (⟨#[32, 116, 97, 112, 101, 32]⟩ : ByteArray)) ++ t173) ++ (⟨#[32, 99, 111, 109, 112, 97, 115, 115, 32]⟩ : ByteArray)).size + t174.size ≤ 9223372036854775807 then (if ((((((((⟨#[108, 101, 103, 32]⟩ : ByteArray) ++ t171) ++ (⟨#[45]⟩ : ByteArray)) ++ t172) ++ (⟨#[32, 116, 97, 112, 101, 32]⟩ : ByteArray)) ++ t173) ++ (⟨#[32, 99, 111, 109, 112, 97, 115, 115, 32]⟩ : ByteArray)) ++ t174).size + 7 ≤ 9223372036854775807 then ((impl_decimal.f a0_4).bind fun t175 => (if (((((((((⟨#[108, 101, 103, 32]⟩ : ByteArray) ++ t171) ++ (⟨#[45]⟩ : ByteArray)) ++ t172) ++ (⟨#[32, 116, 97, 112, 101, 32]⟩ : ByteArray)) ++ t173) ++ (⟨#[32, 99, 111, 109, 112, 97, 115, 115, 32]⟩ : ByteArray)) ++ t174) ++ (⟨#[32, 115, 108, 111, 112, 101, 32]⟩ : ByteArray)).size + t175.size ≤ 9223372036854775807 then (some ((((((((((⟨#[108, 101, 103, 32]⟩ : ByteArray) ++ t171) ++ (⟨#[45]⟩ : ByteArray)) ++ t172) ++ (⟨#[32, 116, 97, 112, 101, 32]⟩ : ByteArray)) ++ t173) ++ (⟨#[32, 99, 111, 109, 112, 97, 115, 115, 32]⟩ : ByteArray)) ++ t174) ++ (⟨#[32, 115, 108, 111, 112, 101, 32]⟩ : ByteArray)) ++ t175)) else (none))) else (none)) else (none))) else (none)) else (none)) = some r := H
          have A8 := Aside0.mk A80
          clear A80
          by_cases c9 : (((((⟨#[108, 101, 103, 32]⟩ : ByteArray) ++ t171) ++ (⟨#[45]⟩ : ByteArray)) ++ t172) ++ (⟨#[32, 116, 97, 112, 101, 32]⟩ : ByteArray)).size + t173.size ≤ 9223372036854775807
          · rw [if_pos c9] at H
            have c9b0 := eq_true c9
            have c9b1 : decide ((((((⟨#[108, 101, 103, 32]⟩ : ByteArray) ++ t171) ++ (⟨#[45]⟩ : ByteArray)) ++ t172) ++ (⟨#[32, 116, 97, 112, 101, 32]⟩ : ByteArray)).size + t173.size ≤ 9223372036854775807) = true := decide_eq_true c9
            try have c9b2 : (9223372036854775807 < (((((⟨#[108, 101, 103, 32]⟩ : ByteArray) ++ t171) ++ (⟨#[45]⟩ : ByteArray)) ++ t172) ++ (⟨#[32, 116, 97, 112, 101, 32]⟩ : ByteArray)).size + t173.size) = False := eq_false (Nat.not_lt.2 c9)
            (try have c9b6 : (9223372036854775807 < 4 + t171.size + 1 + t172.size + 6 + t173.size) = False := eq_false (by have h_ := c9; have hz0_ : (⟨#[108, 101, 103, 32]⟩ : ByteArray).size = 4 := rfl; have hz1_ : (⟨#[45]⟩ : ByteArray).size = 1 := rfl; have hz2_ : (⟨#[32, 116, 97, 112, 101, 32]⟩ : ByteArray).size = 6 := rfl; simp only [ByteArray.size_append, hz0_, hz1_, hz2_] at h_; omega))
            by_cases c10 : ((((((⟨#[108, 101, 103, 32]⟩ : ByteArray) ++ t171) ++ (⟨#[45]⟩ : ByteArray)) ++ t172) ++ (⟨#[32, 116, 97, 112, 101, 32]⟩ : ByteArray)) ++ t173).size + 9 ≤ 9223372036854775807
            · rw [if_pos c10] at H
              have c10b0 := eq_true c10
              have c10b1 : decide (((((((⟨#[108, 101, 103, 32]⟩ : ByteArray) ++ t171) ++ (⟨#[45]⟩ : ByteArray)) ++ t172) ++ (⟨#[32, 116, 97, 112, 101, 32]⟩ : ByteArray)) ++ t173).size + 9 ≤ 9223372036854775807) = true := decide_eq_true c10
              try have c10b2 : (9223372036854775807 < ((((((⟨#[108, 101, 103, 32]⟩ : ByteArray) ++ t171) ++ (⟨#[45]⟩ : ByteArray)) ++ t172) ++ (⟨#[32, 116, 97, 112, 101, 32]⟩ : ByteArray)) ++ t173).size + 9) = False := eq_false (Nat.not_lt.2 c10)
              (try have c10b6 : (9223372036854775807 < 4 + t171.size + 1 + t172.size + 6 + t173.size + 9) = False := eq_false (by have h_ := c10; have hz0_ : (⟨#[108, 101, 103, 32]⟩ : ByteArray).size = 4 := rfl; have hz1_ : (⟨#[45]⟩ : ByteArray).size = 1 := rfl; have hz2_ : (⟨#[32, 116, 97, 112, 101, 32]⟩ : ByteArray).size = 6 := rfl; simp only [ByteArray.size_append, hz0_, hz1_, hz2_] at h_; omega))
              replace H := Option.bind_eq_some_iff.mp H
              obtain ⟨t174, A110, H⟩ := H
              replace H : (if (((((((⟨#[108, 101, 103, 32]⟩ : ByteArray) ++ t171) ++ (⟨#[45]⟩ : ByteArray)) ++ t172) ++ (⟨#[32, 116, 97, 112, 101, 32]⟩ : ByteArray)) ++ t173) ++ (⟨#[32, 99, 111, 109, 112, 97, 115, 115, 32]⟩ : ByteArray)).size + t174.size ≤ 9223372036854775807 then (if ((((((((⟨#[108, 101, 103, 32]⟩ : ByteArray) ++ t171) ++ (⟨#[45]⟩ : ByteArray)) ++ t172) ++ (⟨#[32, 116, 97, 112, 101, 32]⟩ : ByteArray)) ++ t173) ++ (⟨#[32, 99, 111, 109, 112, 97, 115, 115, 32]⟩ : ByteArray)) ++ t174).size + 7 ≤ 9223372036854775807 then ((impl_decimal.f a0_4).bind fun t175 => (if (((((((((⟨#[108, 101, 103, 32]⟩ : ByteArray) ++ t171) ++ (⟨#[45]⟩ : ByteArray)) ++ t172) ++ (⟨#[32, 116, 97, 112, 101, 32]⟩ : ByteArray)) ++ t173) ++ (⟨#[32, 99, 111, 109, 112, 97, 115, 115, 32]⟩ : ByteArray)) ++ t174) ++ (⟨#[32, 115, 108, 111, 112, 101, 32]⟩ : ByteArray)).size + t175.size ≤ 9223372036854775807 then (some ((((((((((⟨#[108, 101, 103, 32]⟩ : ByteArray) ++ t171) ++ (⟨#[45]⟩ : ByteArray)) ++ t172) ++ (⟨#[32, 116, 97, 112, 101, 32]⟩ : ByteArray)) ++ t173) ++ (⟨#[32, 99, 111, 109, 112, 97, 115, 115, 32]⟩ : ByteArray)) ++ t174) ++ (⟨#[32, 115, 108, 111, 112, 101, 32]⟩ : ByteArray)) ++ t175)) else (none))) else (none)) else (none)) = some r := H
              have A11 := Aside0.mk A110
              clear A110
              by_cases c12 : (((((((⟨#[108, 101, 103, 32]⟩ : ByteArray) ++ t171) ++ (⟨#[45]⟩ : ByteArray)) ++ t172) ++ (⟨#[32, 116, 97, 112, 101, 32]⟩ : ByteArray)) ++ t173) ++ (⟨#[32, 99, 111, 109, 112, 97, 115, 115, 32]⟩ : ByteArray)).size + t174.size ≤ 9223372036854775807
              · rw [if_pos c12] at H
                have c12b0 := eq_true c12
                have c12b1 : decide ((((((((⟨#[108, 101, 103, 32]⟩ : ByteArray) ++ t171) ++ (⟨#[45]⟩ : ByteArray)) ++ t172) ++ (⟨#[32, 116, 97, 112, 101, 32]⟩ : ByteArray)) ++ t173) ++ (⟨#[32, 99, 111, 109, 112, 97, 115, 115, 32]⟩ : ByteArray)).size + t174.size ≤ 9223372036854775807) = true := decide_eq_true c12
                try have c12b2 : (9223372036854775807 < (((((((⟨#[108, 101, 103, 32]⟩ : ByteArray) ++ t171) ++ (⟨#[45]⟩ : ByteArray)) ++ t172) ++ (⟨#[32, 116, 97, 112, 101, 32]⟩ : ByteArray)) ++ t173) ++ (⟨#[32, 99, 111, 109, 112, 97, 115, 115, 32]⟩ : ByteArray)).size + t174.size) = False := eq_false (Nat.not_lt.2 c12)
                (try have c12b6 : (9223372036854775807 < 4 + t171.size + 1 + t172.size + 6 + t173.size + 9 + t174.size) = False := eq_false (by have h_ := c12; have hz0_ : (⟨#[108, 101, 103, 32]⟩ : ByteArray).size = 4 := rfl; have hz1_ : (⟨#[45]⟩ : ByteArray).size = 1 := rfl; have hz2_ : (⟨#[32, 116, 97, 112, 101, 32]⟩ : ByteArray).size = 6 := rfl; have hz3_ : (⟨#[32, 99, 111, 109, 112, 97, 115, 115, 32]⟩ : ByteArray).size = 9 := rfl; simp only [ByteArray.size_append, hz0_, hz1_, hz2_, hz3_] at h_; omega))
                by_cases c13 : ((((((((⟨#[108, 101, 103, 32]⟩ : ByteArray) ++ t171) ++ (⟨#[45]⟩ : ByteArray)) ++ t172) ++ (⟨#[32, 116, 97, 112, 101, 32]⟩ : ByteArray)) ++ t173) ++ (⟨#[32, 99, 111, 109, 112, 97, 115, 115, 32]⟩ : ByteArray)) ++ t174).size + 7 ≤ 9223372036854775807
                · rw [if_pos c13] at H
                  have c13b0 := eq_true c13
                  have c13b1 : decide (((((((((⟨#[108, 101, 103, 32]⟩ : ByteArray) ++ t171) ++ (⟨#[45]⟩ : ByteArray)) ++ t172) ++ (⟨#[32, 116, 97, 112, 101, 32]⟩ : ByteArray)) ++ t173) ++ (⟨#[32, 99, 111, 109, 112, 97, 115, 115, 32]⟩ : ByteArray)) ++ t174).size + 7 ≤ 9223372036854775807) = true := decide_eq_true c13
                  try have c13b2 : (9223372036854775807 < ((((((((⟨#[108, 101, 103, 32]⟩ : ByteArray) ++ t171) ++ (⟨#[45]⟩ : ByteArray)) ++ t172) ++ (⟨#[32, 116, 97, 112, 101, 32]⟩ : ByteArray)) ++ t173) ++ (⟨#[32, 99, 111, 109, 112, 97, 115, 115, 32]⟩ : ByteArray)) ++ t174).size + 7) = False := eq_false (Nat.not_lt.2 c13)
                  (try have c13b6 : (9223372036854775807 < 4 + t171.size + 1 + t172.size + 6 + t173.size + 9 + t174.size + 7) = False := eq_false (by have h_ := c13; have hz0_ : (⟨#[108, 101, 103, 32]⟩ : ByteArray).size = 4 := rfl; have hz1_ : (⟨#[45]⟩ : ByteArray).size = 1 := rfl; have hz2_ : (⟨#[32, 116, 97, 112, 101, 32]⟩ : ByteArray).size = 6 := rfl; have hz3_ : (⟨#[32, 99, 111, 109, 112, 97, 115, 115, 32]⟩ : ByteArray).size = 9 := rfl; simp only [ByteArray.size_append, hz0_, hz1_, hz2_, hz3_] at h_; omega))
                  replace H := Option.bind_eq_some_iff.mp H
                  obtain ⟨t175, A140, H⟩ := H
                  replace H : (if (((((((((⟨#[108, 101, 103, 32]⟩ : ByteArray) ++ t171) ++ (⟨#[45]⟩ : ByteArray)) ++ t172) ++ (⟨#[32, 116, 97, 112, 101, 32]⟩ : ByteArray)) ++ t173) ++ (⟨#[32, 99, 111, 109, 112, 97, 115, 115, 32]⟩ : ByteArray)) ++ t174) ++ (⟨#[32, 115, 108, 111, 112, 101, 32]⟩ : ByteArray)).size + t175.size ≤ 9223372036854775807 then (some ((((((((((⟨#[108, 101, 103, 32]⟩ : ByteArray) ++ t171) ++ (⟨#[45]⟩ : ByteArray)) ++ t172) ++ (⟨#[32, 116, 97, 112, 101, 32]⟩ : ByteArray)) ++ t173) ++ (⟨#[32, 99, 111, 109, 112, 97, 115, 115, 32]⟩ : ByteArray)) ++ t174) ++ (⟨#[32, 115, 108, 111, 112, 101, 32]⟩ : ByteArray)) ++ t175)) else (none)) = some r := H
                  have A14 := Aside0.mk A140
                  clear A140
                  by_cases c15 : (((((((((⟨#[108, 101, 103, 32]⟩ : ByteArray) ++ t171) ++ (⟨#[45]⟩ : ByteArray)) ++ t172) ++ (⟨#[32, 116, 97, 112, 101, 32]⟩ : ByteArray)) ++ t173) ++ (⟨#[32, 99, 111, 109, 112, 97, 115, 115, 32]⟩ : ByteArray)) ++ t174) ++ (⟨#[32, 115, 108, 111, 112, 101, 32]⟩ : ByteArray)).size + t175.size ≤ 9223372036854775807
                  · rw [if_pos c15] at H
                    have c15b0 := eq_true c15
                    have c15b1 : decide ((((((((((⟨#[108, 101, 103, 32]⟩ : ByteArray) ++ t171) ++ (⟨#[45]⟩ : ByteArray)) ++ t172) ++ (⟨#[32, 116, 97, 112, 101, 32]⟩ : ByteArray)) ++ t173) ++ (⟨#[32, 99, 111, 109, 112, 97, 115, 115, 32]⟩ : ByteArray)) ++ t174) ++ (⟨#[32, 115, 108, 111, 112, 101, 32]⟩ : ByteArray)).size + t175.size ≤ 9223372036854775807) = true := decide_eq_true c15
                    try have c15b2 : (9223372036854775807 < (((((((((⟨#[108, 101, 103, 32]⟩ : ByteArray) ++ t171) ++ (⟨#[45]⟩ : ByteArray)) ++ t172) ++ (⟨#[32, 116, 97, 112, 101, 32]⟩ : ByteArray)) ++ t173) ++ (⟨#[32, 99, 111, 109, 112, 97, 115, 115, 32]⟩ : ByteArray)) ++ t174) ++ (⟨#[32, 115, 108, 111, 112, 101, 32]⟩ : ByteArray)).size + t175.size) = False := eq_false (Nat.not_lt.2 c15)
                    (try have c15b6 : (9223372036854775807 < 4 + t171.size + 1 + t172.size + 6 + t173.size + 9 + t174.size + 7 + t175.size) = False := eq_false (by have h_ := c15; have hz0_ : (⟨#[108, 101, 103, 32]⟩ : ByteArray).size = 4 := rfl; have hz1_ : (⟨#[45]⟩ : ByteArray).size = 1 := rfl; have hz2_ : (⟨#[32, 116, 97, 112, 101, 32]⟩ : ByteArray).size = 6 := rfl; have hz3_ : (⟨#[32, 99, 111, 109, 112, 97, 115, 115, 32]⟩ : ByteArray).size = 9 := rfl; have hz4_ : (⟨#[32, 115, 108, 111, 112, 101, 32]⟩ : ByteArray).size = 7 := rfl; simp only [ByteArray.size_append, hz0_, hz1_, hz2_, hz3_, hz4_] at h_; omega))
                    obtain rfl := Option.some.inj H
                    go_enter Tryd.func36, Tryd.ntmps36
                    try go_wp2_with (first | ((with_reducible refine gate_dst (N := 1) rfl ?_); refine box_event ?hg (N := 1) ?hd (cs := #[.int .i64 a0_0, .int .i64 a0_1, .int .i64 a0_2, .int .i64 a0_3, .int .i64 a0_4]) (t := 28) ?hr ?_; (case hd => rfl); (case hg => rfl); (case hr => first | (go_simp; done) | (go_simp; rfl)); intro gb170 hg w16 hbox hb; have n0_ := Aside0.mk (below_step (by repeat (first | (with_reducible first | exact HB.out | apply below_alloc | apply pw_below_drewN | apply below_drew1) | exact HB.out)) hb); have n1_ := Aside0.mk (hbox); have n2_ := Aside0.mk ((by rw [hg]; exact (below_size (by repeat (first | (with_reducible first | exact HB.out | apply below_alloc | apply pw_below_drewN | apply below_drew1) | exact HB.out))) : w.heap.size ≤ gb170)); have n3_ := Aside0.mk ((by rw [hg]; exact (below_size (by repeat (first | (with_reducible first | exact HB.out | apply below_alloc | apply pw_below_drewN | apply below_drew1) | exact HB.out))) : w.heap.size ≤ gb170)); clear HB; have HB := n0_; have BK170 := n1_; have GW170 := n2_; have GE170 := n3_; clear n0_ n1_ n2_ n3_; clear hb hbox hg))
                    have n0_ := Aside0.mk (blk_drew BK170.out)
                    have n1_ := Aside0.mk (below_drew1 HB.out)
                    clear BK170
                    clear HB
                    have BK170 := n0_
                    have HB := n1_
                    clear n0_ n1_
                    refine start_ (n := 25) (S := fun w' => w'.cell? ⟨gb170, 0, none⟩ = some (.int .i64 a0_0) ∧ w'.cell? ⟨gb170, 1, none⟩ = some (.int .i64 a0_1) ∧ w'.cell? ⟨gb170, 2, none⟩ = some (.int .i64 a0_2) ∧ w'.cell? ⟨gb170, 3, none⟩ = some (.int .i64 a0_3) ∧ w'.cell? ⟨gb170, 4, none⟩ = some (.int .i64 a0_4)) (ds := []) #[false, false, false, false, false, false, false, false, false, false, false, false, false, false, false, false, false, false, false, false, false, false, false, false, false] (by kernel_rfl) rfl rfl ⟨(blk_cell BK170.out 0).trans rfl, (blk_cell BK170.out 1).trans rfl, (blk_cell BK170.out 2).trans rfl, (blk_cell BK170.out 3).trans rfl, (blk_cell BK170.out 4).trans rfl⟩ (fun hHeld => ?_); refine with_tabW impl_legText.tab1 impl_legText.bits1 (fun HT_ HW_ => ?_)
                    generalize w16.drew = w17 at BK170 HB hHeld ⊢
                    refine pure_ (i := 0) (N := some 3) (v := ?_) (a' := ?_) #[true, false, false, false, false, false, false, false, false, false, false, false, false, false, false, false, false, false, false, false, false, false, false, false, false] rfl rfl (any_of HT_.out (by kernel_rfl)) (fun _ _ _ h => h) (Or.inl ⟨by rfl, ?_⟩) ?_ ?_
                    rotate_left
                    · intro w'
                      go_simp
                      with_reducible rfl
                    rotate_left
                    · simp only [Act.put, List.setIfInBounds_toArray, List.set_cons_zero, List.set_cons_succ, i64_w, i32_w]
                      rfl
                    refine pure_ (i := 5) (N := some 8) (v := ?_) (a' := ?_) #[true, false, false, false, false, true, false, false, false, false, false, false, false, false, false, false, false, false, false, false, false, false, false, false, false] rfl rfl (any_of HT_.out (by kernel_rfl)) (fun _ _ _ h => h) (Or.inl ⟨by rfl, ?_⟩) ?_ ?_
                    rotate_left
                    · intro w'
                      go_simp
                      with_reducible rfl
                    rotate_left
                    · simp only [Act.put, List.setIfInBounds_toArray, List.set_cons_zero, List.set_cons_succ, i64_w, i32_w]
                      rfl
                    refine pure_ (i := 10) (N := some 13) (v := ?_) (a' := ?_) #[true, false, false, false, false, true, false, false, false, false, true, false, false, false, false, false, false, false, false, false, false, false, false, false, false] rfl rfl (any_of HT_.out (by kernel_rfl)) (fun _ _ _ h => h) (Or.inl ⟨by rfl, ?_⟩) ?_ ?_
                    rotate_left
                    · intro w'
                      go_simp
                      with_reducible rfl
                    rotate_left
                    · simp only [Act.put, List.setIfInBounds_toArray, List.set_cons_zero, List.set_cons_succ, i64_w, i32_w]
                      rfl
                    refine pure_ (i := 15) (N := some 18) (v := ?_) (a' := ?_) #[true, false, false, false, false, true, false, false, false, false, true, false, false, false, false, true, false, false, false, false, false, false, false, false, false] rfl rfl (any_of HT_.out (by kernel_rfl)) (fun _ _ _ h => h) (Or.inl ⟨by rfl, ?_⟩) ?_ ?_
                    rotate_left
                    · intro w'
                      go_simp
                      with_reducible rfl
                    rotate_left
                    · simp only [Act.put, List.setIfInBounds_toArray, List.set_cons_zero, List.set_cons_succ, i64_w, i32_w]
                      rfl
                    refine pure_ (i := 20) (N := some 23) (v := ?_) (a' := ?_) #[true, false, false, false, false, true, false, false, false, false, true, false, false, false, false, true, false, false, false, false, true, false, false, false, false] rfl rfl (any_of HT_.out (by kernel_rfl)) (fun _ _ _ h => h) (Or.inl ⟨by rfl, ?_⟩) ?_ ?_
                    rotate_left
                    · intro w'
                      go_simp
                      with_reducible rfl
                    rotate_left
                    · simp only [Act.put, List.setIfInBounds_toArray, List.set_cons_zero, List.set_cons_succ, i64_w, i32_w]
                      rfl
                    refine take_ (i := 1) (N := some 4) (v := ?_) (a' := ?_) #[true, true, false, false, false, true, false, false, false, false, true, false, false, false, false, true, false, false, false, false, true, false, false, false, false] rfl rfl (take_ofW HT_.out HW_.out (by kernel_rfl)) (fun _ _ _ h => h) (Or.inl ⟨by rfl, ?_⟩) hHeld ?_ ?_
                    rotate_left
                    · rintro w' ⟨s0, s1, s2, s3, s4⟩
                      go_simp
                      with_reducible rfl
                    rotate_left
                    · simp only [Act.put, List.setIfInBounds_toArray, List.set_cons_zero, List.set_cons_succ, i64_w, i32_w]
                      rfl
                    refine take_ (i := 6) (N := some 9) (v := ?_) (a' := ?_) #[true, true, false, false, false, true, true, false, false, false, true, false, false, false, false, true, false, false, false, false, true, false, false, false, false] rfl rfl (take_ofW HT_.out HW_.out (by kernel_rfl)) (fun _ _ _ h => h) (Or.inl ⟨by rfl, ?_⟩) hHeld ?_ ?_
                    rotate_left
                    · rintro w' ⟨s0, s1, s2, s3, s4⟩
                      go_simp
                      with_reducible rfl
                    rotate_left
                    · simp only [Act.put, List.setIfInBounds_toArray, List.set_cons_zero, List.set_cons_succ, i64_w, i32_w]
                      rfl
                    refine take_ (i := 11) (N := some 14) (v := ?_) (a' := ?_) #[true, true, false, false, false, true, true, false, false, false, true, true, false, false, false, true, false, false, false, false, true, false, false, false, false] rfl rfl (take_ofW HT_.out HW_.out (by kernel_rfl)) (fun _ _ _ h => h) (Or.inl ⟨by rfl, ?_⟩) hHeld ?_ ?_
                    rotate_left
                    · rintro w' ⟨s0, s1, s2, s3, s4⟩
                      go_simp
                      with_reducible rfl
                    rotate_left
                    · simp only [Act.put, List.setIfInBounds_toArray, List.set_cons_zero, List.set_cons_succ, i64_w, i32_w]
                      rfl
                    refine take_ (i := 16) (N := some 19) (v := ?_) (a' := ?_) #[true, true, false, false, false, true, true, false, false, false, true, true, false, false, false, true, true, false, false, false, true, false, false, false, false] rfl rfl (take_ofW HT_.out HW_.out (by kernel_rfl)) (fun _ _ _ h => h) (Or.inl ⟨by rfl, ?_⟩) hHeld ?_ ?_
                    rotate_left
                    · rintro w' ⟨s0, s1, s2, s3, s4⟩
                      go_simp
                      with_reducible rfl
                    rotate_left
                    · simp only [Act.put, List.setIfInBounds_toArray, List.set_cons_zero, List.set_cons_succ, i64_w, i32_w]
                      rfl
                    refine take_ (i := 21) (N := some 24) (v := ?_) (a' := ?_) #[true, true, false, false, false, true, true, false, false, false, true, true, false, false, false, true, true, false, false, false, true, true, false, false, false] rfl rfl (take_ofW HT_.out HW_.out (by kernel_rfl)) (fun _ _ _ h => h) (Or.inl ⟨by rfl, ?_⟩) hHeld ?_ ?_
                    rotate_left
                    · rintro w' ⟨s0, s1, s2, s3, s4⟩
                      go_simp
                      with_reducible rfl
                    rotate_left
                    · simp only [Act.put, List.setIfInBounds_toArray, List.set_cons_zero, List.set_cons_succ, i64_w, i32_w]
                      rfl
                    refine one_ (i := 2) (N := some 5) #[true, true, true, false, false, true, true, false, false, false, true, true, false, false, false, true, true, false, false, false, true, true, false, false, false] rfl rfl (one_of HT_.out (by kernel_rfl)) (by decide) (fun K hK => ?_)
                    refine goes_ Tryd.func32 (by kernel_rfl) rfl #[.int .i64 a0_0] (by rfl) rfl rfl (by (try simp only [List.map_toArray, List.map_cons, List.map_nil]); first | done | rfl | (simp only [List.length_drop, List.length_take]; rfl)) ?_
                    with_reducible refine (impl_decimal.calls a0_0 t171 _ ?sideT A2.out).mono ?_
                    (case sideT => first | exact HT.out | (refine Tab.drawn HT.out ?_; (repeat (first | exact Drawn0.refl _ | apply Drawn0.step)); done) | (refine Tab.below HT.out ?_; repeat (first | (with_reducible first | exact HB.out | apply below_alloc | apply pw_below_drewN | apply below_drew1 | refine below_set ?_ GE170.out) | exact HB.out)))
                    rintro e w18 ⟨rfl, hb⟩
                    refine ⟨_, rfl, ?_⟩
                    have n0_ := Aside0.mk (blk_below (g := gb170) (o := .cells #[.int .i64 a0_0, .int .i64 a0_1, .int .i64 a0_2, .int .i64 a0_3, .int .i64 a0_4] 28 (0, 0)) (by (with_reducible repeat (first | refine blk_drewN ?_ _ | refine blk_drew ?_ | refine blk_alloc ?_ _)); exact BK170.out) hb)
                    have n1_ := Aside0.mk (below_step (by repeat (first | (with_reducible first | exact HB.out | apply below_alloc | apply pw_below_drewN | apply below_drew1 | refine below_set ?_ GE170.out) | exact HB.out)) hb)
                    clear BK170
                    clear HB
                    have BK170 := n0_
                    have HB := n1_
                    clear n0_ n1_
                    (try clear hb)
                    (try clear hb2)
                    (try clear hk)
                    (try clear hi)
                    refine hK.out _ _ ⟨(blk_cell BK170.out 0).trans rfl, (blk_cell BK170.out 1).trans rfl, (blk_cell BK170.out 2).trans rfl, (blk_cell BK170.out 3).trans rfl, (blk_cell BK170.out 4).trans rfl⟩ (fun hHeld => ?_)
                    clear hK K
                    refine norm_ (a' := ?_) ?_ ?_
                    rotate_left
                    · show Act.put _ (some 5) _ = _
                      simp only [Act.put, List.setIfInBounds_toArray, List.set_cons_zero, List.set_cons_succ, i64_w, i32_w]
                      rfl
                    refine pure_ (i := 3) (N := some 6) (v := ?_) (a' := ?_) #[true, true, true, true, false, true, true, false, false, false, true, true, false, false, false, true, true, false, false, false, true, true, false, false, false] rfl rfl (any_of HT_.out (by kernel_rfl)) (fun _ _ _ h => h) (Or.inl ⟨by rfl, ?_⟩) ?_ ?_
                    rotate_left
                    · intro w'
                      go_simp
                      with_reducible rfl
                    rotate_left
                    · simp only [Act.put, List.setIfInBounds_toArray, List.set_cons_zero, List.set_cons_succ, i64_w, i32_w]
                      rfl
                    refine pure_ (i := 4) (N := some 7) (v := ?_) (a' := ?_) #[true, true, true, true, true, true, true, false, false, false, true, true, false, false, false, true, true, false, false, false, true, true, false, false, false] rfl rfl (any_of HT_.out (by kernel_rfl)) (fun _ _ _ h => h) (Or.inl ⟨by rfl, ?_⟩) ?_ ?_
                    rotate_left
                    · intro w'
                      go_simp
                      with_reducible rfl
                    rotate_left
                    · simp only [Act.put, List.setIfInBounds_toArray, List.set_cons_zero, List.set_cons_succ, i64_w, i32_w]
                      rfl
                    refine one_ (i := 7) (N := some 10) #[true, true, true, true, true, true, true, true, false, false, true, true, false, false, false, true, true, false, false, false, true, true, false, false, false] rfl rfl (one_of HT_.out (by kernel_rfl)) (by decide) (fun K hK => ?_)
                    refine goes_ Tryd.func32 (by kernel_rfl) rfl #[.int .i64 a0_1] (by rfl) rfl rfl (by (try simp only [List.map_toArray, List.map_cons, List.map_nil]); first | done | rfl | (simp only [List.length_drop, List.length_take]; rfl)) ?_
                    with_reducible refine (impl_decimal.calls a0_1 t172 _ ?sideT A5.out).mono ?_
                    (case sideT => first | exact HT.out | (refine Tab.drawn HT.out ?_; (repeat (first | exact Drawn0.refl _ | apply Drawn0.step)); done) | (refine Tab.below HT.out ?_; repeat (first | (with_reducible first | exact HB.out | apply below_alloc | apply pw_below_drewN | apply below_drew1 | refine below_set ?_ GE170.out) | exact HB.out)))
                    rintro e w19 ⟨rfl, hb⟩
                    refine ⟨_, rfl, ?_⟩
                    have n0_ := Aside0.mk (blk_below (g := gb170) (o := .cells #[.int .i64 a0_0, .int .i64 a0_1, .int .i64 a0_2, .int .i64 a0_3, .int .i64 a0_4] 28 (0, 0)) (by (with_reducible repeat (first | refine blk_drewN ?_ _ | refine blk_drew ?_ | refine blk_alloc ?_ _)); exact BK170.out) hb)
                    have n1_ := Aside0.mk (below_step (by repeat (first | (with_reducible first | exact HB.out | apply below_alloc | apply pw_below_drewN | apply below_drew1 | refine below_set ?_ GE170.out) | exact HB.out)) hb)
                    clear BK170
                    clear HB
                    have BK170 := n0_
                    have HB := n1_
                    clear n0_ n1_
                    (try clear hb)
                    (try clear hb2)
                    (try clear hk)
                    (try clear hi)
                    refine hK.out _ _ ⟨(blk_cell BK170.out 0).trans rfl, (blk_cell BK170.out 1).trans rfl, (blk_cell BK170.out 2).trans rfl, (blk_cell BK170.out 3).trans rfl, (blk_cell BK170.out 4).trans rfl⟩ (fun hHeld => ?_)
                    clear hK K
                    refine norm_ (a' := ?_) ?_ ?_
                    rotate_left
                    · show Act.put _ (some 10) _ = _
                      simp only [Act.put, List.setIfInBounds_toArray, List.set_cons_zero, List.set_cons_succ, i64_w, i32_w]
                      rfl
                    refine pure_ (i := 8) (N := some 11) (v := ?_) (a' := ?_) #[true, true, true, true, true, true, true, true, true, false, true, true, false, false, false, true, true, false, false, false, true, true, false, false, false] rfl rfl (any_of HT_.out (by kernel_rfl)) (fun _ _ _ h => h) (Or.inl ⟨by rfl, ?_⟩) ?_ ?_
                    rotate_left
                    · intro w'
                      go_simp
                      with_reducible rfl
                    rotate_left
                    · simp only [Act.put, List.setIfInBounds_toArray, List.set_cons_zero, List.set_cons_succ, i64_w, i32_w]
                      rfl
                    refine pure_ (i := 9) (N := some 12) (v := ?_) (a' := ?_) #[true, true, true, true, true, true, true, true, true, true, true, true, false, false, false, true, true, false, false, false, true, true, false, false, false] rfl rfl (any_of HT_.out (by kernel_rfl)) (fun _ _ _ h => h) (Or.inl ⟨by rfl, ?_⟩) ?_ ?_
                    rotate_left
                    · intro w'
                      go_simp
                      with_reducible rfl
                    rotate_left
                    · simp only [Act.put, List.setIfInBounds_toArray, List.set_cons_zero, List.set_cons_succ, i64_w, i32_w]
                      rfl
                    refine one_ (i := 12) (N := some 15) #[true, true, true, true, true, true, true, true, true, true, true, true, true, false, false, true, true, false, false, false, true, true, false, false, false] rfl rfl (one_of HT_.out (by kernel_rfl)) (by decide) (fun K hK => ?_)
                    refine goes_ Tryd.func32 (by kernel_rfl) rfl #[.int .i64 a0_2] (by rfl) rfl rfl (by (try simp only [List.map_toArray, List.map_cons, List.map_nil]); first | done | rfl | (simp only [List.length_drop, List.length_take]; rfl)) ?_
                    with_reducible refine (impl_decimal.calls a0_2 t173 _ ?sideT A8.out).mono ?_
                    (case sideT => first | exact HT.out | (refine Tab.drawn HT.out ?_; (repeat (first | exact Drawn0.refl _ | apply Drawn0.step)); done) | (refine Tab.below HT.out ?_; repeat (first | (with_reducible first | exact HB.out | apply below_alloc | apply pw_below_drewN | apply below_drew1 | refine below_set ?_ GE170.out) | exact HB.out)))
                    rintro e w20 ⟨rfl, hb⟩
                    refine ⟨_, rfl, ?_⟩
                    have n0_ := Aside0.mk (blk_below (g := gb170) (o := .cells #[.int .i64 a0_0, .int .i64 a0_1, .int .i64 a0_2, .int .i64 a0_3, .int .i64 a0_4] 28 (0, 0)) (by (with_reducible repeat (first | refine blk_drewN ?_ _ | refine blk_drew ?_ | refine blk_alloc ?_ _)); exact BK170.out) hb)
                    have n1_ := Aside0.mk (below_step (by repeat (first | (with_reducible first | exact HB.out | apply below_alloc | apply pw_below_drewN | apply below_drew1 | refine below_set ?_ GE170.out) | exact HB.out)) hb)
                    clear BK170
                    clear HB
                    have BK170 := n0_
                    have HB := n1_
                    clear n0_ n1_
                    (try clear hb)
                    (try clear hb2)
                    (try clear hk)
                    (try clear hi)
                    refine hK.out _ _ ⟨(blk_cell BK170.out 0).trans rfl, (blk_cell BK170.out 1).trans rfl, (blk_cell BK170.out 2).trans rfl, (blk_cell BK170.out 3).trans rfl, (blk_cell BK170.out 4).trans rfl⟩ (fun hHeld => ?_)
                    clear hK K
                    refine norm_ (a' := ?_) ?_ ?_
                    rotate_left
                    · show Act.put _ (some 15) _ = _
                      simp only [Act.put, List.setIfInBounds_toArray, List.set_cons_zero, List.set_cons_succ, i64_w, i32_w]
                      rfl
                    refine pure_ (i := 13) (N := some 16) (v := ?_) (a' := ?_) #[true, true, true, true, true, true, true, true, true, true, true, true, true, true, false, true, true, false, false, false, true, true, false, false, false] rfl rfl (any_of HT_.out (by kernel_rfl)) (fun _ _ _ h => h) (Or.inl ⟨by rfl, ?_⟩) ?_ ?_
                    rotate_left
                    · intro w'
                      go_simp
                      with_reducible rfl
                    rotate_left
                    · simp only [Act.put, List.setIfInBounds_toArray, List.set_cons_zero, List.set_cons_succ, i64_w, i32_w]
                      rfl
                    refine pure_ (i := 14) (N := some 17) (v := ?_) (a' := ?_) #[true, true, true, true, true, true, true, true, true, true, true, true, true, true, true, true, true, false, false, false, true, true, false, false, false] rfl rfl (any_of HT_.out (by kernel_rfl)) (fun _ _ _ h => h) (Or.inl ⟨by rfl, ?_⟩) ?_ ?_
                    rotate_left
                    · intro w'
                      go_simp
                      with_reducible rfl
                    rotate_left
                    · simp only [Act.put, List.setIfInBounds_toArray, List.set_cons_zero, List.set_cons_succ, i64_w, i32_w]
                      rfl
                    refine one_ (i := 17) (N := some 20) #[true, true, true, true, true, true, true, true, true, true, true, true, true, true, true, true, true, true, false, false, true, true, false, false, false] rfl rfl (one_of HT_.out (by kernel_rfl)) (by decide) (fun K hK => ?_)
                    refine goes_ Tryd.func32 (by kernel_rfl) rfl #[.int .i64 a0_3] (by rfl) rfl rfl (by (try simp only [List.map_toArray, List.map_cons, List.map_nil]); first | done | rfl | (simp only [List.length_drop, List.length_take]; rfl)) ?_
                    with_reducible refine (impl_decimal.calls a0_3 t174 _ ?sideT A11.out).mono ?_
                    (case sideT => first | exact HT.out | (refine Tab.drawn HT.out ?_; (repeat (first | exact Drawn0.refl _ | apply Drawn0.step)); done) | (refine Tab.below HT.out ?_; repeat (first | (with_reducible first | exact HB.out | apply below_alloc | apply pw_below_drewN | apply below_drew1 | refine below_set ?_ GE170.out) | exact HB.out)))
                    rintro e w21 ⟨rfl, hb⟩
                    refine ⟨_, rfl, ?_⟩
                    have n0_ := Aside0.mk (blk_below (g := gb170) (o := .cells #[.int .i64 a0_0, .int .i64 a0_1, .int .i64 a0_2, .int .i64 a0_3, .int .i64 a0_4] 28 (0, 0)) (by (with_reducible repeat (first | refine blk_drewN ?_ _ | refine blk_drew ?_ | refine blk_alloc ?_ _)); exact BK170.out) hb)
                    have n1_ := Aside0.mk (below_step (by repeat (first | (with_reducible first | exact HB.out | apply below_alloc | apply pw_below_drewN | apply below_drew1 | refine below_set ?_ GE170.out) | exact HB.out)) hb)
                    clear BK170
                    clear HB
                    have BK170 := n0_
                    have HB := n1_
                    clear n0_ n1_
                    (try clear hb)
                    (try clear hb2)
                    (try clear hk)
                    (try clear hi)
                    refine hK.out _ _ ⟨(blk_cell BK170.out 0).trans rfl, (blk_cell BK170.out 1).trans rfl, (blk_cell BK170.out 2).trans rfl, (blk_cell BK170.out 3).trans rfl, (blk_cell BK170.out 4).trans rfl⟩ (fun hHeld => ?_)
                    clear hK K
                    refine norm_ (a' := ?_) ?_ ?_
                    rotate_left
                    · show Act.put _ (some 20) _ = _
                      simp only [Act.put, List.setIfInBounds_toArray, List.set_cons_zero, List.set_cons_succ, i64_w, i32_w]
                      rfl
                    refine pure_ (i := 18) (N := some 21) (v := ?_) (a' := ?_) #[true, true, true, true, true, true, true, true, true, true, true, true, true, true, true, true, true, true, true, false, true, true, false, false, false] rfl rfl (any_of HT_.out (by kernel_rfl)) (fun _ _ _ h => h) (Or.inl ⟨by rfl, ?_⟩) ?_ ?_
                    rotate_left
                    · intro w'
                      go_simp
                      with_reducible rfl
                    rotate_left
                    · simp only [Act.put, List.setIfInBounds_toArray, List.set_cons_zero, List.set_cons_succ, i64_w, i32_w]
                      rfl
                    refine pure_ (i := 19) (N := some 22) (v := ?_) (a' := ?_) #[true, true, true, true, true, true, true, true, true, true, true, true, true, true, true, true, true, true, true, true, true, true, false, false, false] rfl rfl (any_of HT_.out (by kernel_rfl)) (fun _ _ _ h => h) (Or.inl ⟨by rfl, ?_⟩) ?_ ?_
                    rotate_left
                    · intro w'
                      go_simp
                      with_reducible rfl
                    rotate_left
                    · simp only [Act.put, List.setIfInBounds_toArray, List.set_cons_zero, List.set_cons_succ, i64_w, i32_w]
                      rfl
                    refine one_ (i := 22) (N := some 25) #[true, true, true, true, true, true, true, true, true, true, true, true, true, true, true, true, true, true, true, true, true, true, true, false, false] rfl rfl (one_of HT_.out (by kernel_rfl)) (by decide) (fun K hK => ?_)
                    refine goes_ Tryd.func32 (by kernel_rfl) rfl #[.int .i64 a0_4] (by rfl) rfl rfl (by (try simp only [List.map_toArray, List.map_cons, List.map_nil]); first | done | rfl | (simp only [List.length_drop, List.length_take]; rfl)) ?_
                    with_reducible refine (impl_decimal.calls a0_4 t175 _ ?sideT A14.out).mono ?_
                    (case sideT => first | exact HT.out | (refine Tab.drawn HT.out ?_; (repeat (first | exact Drawn0.refl _ | apply Drawn0.step)); done) | (refine Tab.below HT.out ?_; repeat (first | (with_reducible first | exact HB.out | apply below_alloc | apply pw_below_drewN | apply below_drew1 | refine below_set ?_ GE170.out) | exact HB.out)))
                    rintro e w22 ⟨rfl, hb⟩
                    refine ⟨_, rfl, ?_⟩
                    have n0_ := Aside0.mk (blk_below (g := gb170) (o := .cells #[.int .i64 a0_0, .int .i64 a0_1, .int .i64 a0_2, .int .i64 a0_3, .int .i64 a0_4] 28 (0, 0)) (by (with_reducible repeat (first | refine blk_drewN ?_ _ | refine blk_drew ?_ | refine blk_alloc ?_ _)); exact BK170.out) hb)
                    have n1_ := Aside0.mk (below_step (by repeat (first | (with_reducible first | exact HB.out | apply below_alloc | apply pw_below_drewN | apply below_drew1 | refine below_set ?_ GE170.out) | exact HB.out)) hb)
                    clear BK170
                    clear HB
                    have BK170 := n0_
                    have HB := n1_
                    clear n0_ n1_
                    (try clear hb)
                    (try clear hb2)
                    (try clear hk)
                    (try clear hi)
                    refine hK.out _ _ ⟨(blk_cell BK170.out 0).trans rfl, (blk_cell BK170.out 1).trans rfl, (blk_cell BK170.out 2).trans rfl, (blk_cell BK170.out 3).trans rfl, (blk_cell BK170.out 4).trans rfl⟩ (fun hHeld => ?_)
                    clear hK K
                    refine norm_ (a' := ?_) ?_ ?_
                    rotate_left
                    · show Act.put _ (some 25) _ = _
                      simp only [Act.put, List.setIfInBounds_toArray, List.set_cons_zero, List.set_cons_succ, i64_w, i32_w]
                      rfl
                    refine pure_ (i := 23) (N := some 26) (v := ?_) (a' := ?_) #[true, true, true, true, true, true, true, true, true, true, true, true, true, true, true, true, true, true, true, true, true, true, true, true, false] rfl rfl (any_of HT_.out (by kernel_rfl)) (fun _ _ _ h => h) (Or.inl ⟨by rfl, ?_⟩) ?_ ?_
                    rotate_left
                    · intro w'
                      go_simp
                      with_reducible rfl
                    rotate_left
                    · simp only [Act.put, List.setIfInBounds_toArray, List.set_cons_zero, List.set_cons_succ, i64_w, i32_w]
                      rfl
                    refine pure_ (i := 24) (N := some 2) (v := ?_) (a' := ?_) #[true, true, true, true, true, true, true, true, true, true, true, true, true, true, true, true, true, true, true, true, true, true, true, true, true] rfl rfl (any_of HT_.out (by kernel_rfl)) (fun _ _ _ h => h) (Or.inl ⟨by rfl, ?_⟩) ?_ ?_
                    rotate_left
                    · intro w'
                      go_simp
                      with_reducible rfl
                    rotate_left
                    · simp only [Act.put, List.setIfInBounds_toArray, List.set_cons_zero, List.set_cons_succ, i64_w, i32_w]
                      rfl
                    refine done_ (done_of HT_.out (by kernel_rfl)) ?_
                    try go_wp2
                    go_ret
                    exact ⟨by first | rfl | (simp [errW_none, errW_some] <;> rfl) | (simp [*, errW_none, errW_some] <;> rfl), by repeat (first | (with_reducible first | exact HB.out | apply below_alloc | apply pw_below_drewN | apply below_drew1 | refine below_set ?_ GE170.out) | exact HB.out)⟩
                  · rw [if_neg c15] at H
                    exact absurd H (by simp)
                · rw [if_neg c13] at H
                  exact absurd H (by simp)
              · rw [if_neg c12] at H
                exact absurd H (by simp)
            · rw [if_neg c10] at H
              exact absurd H (by simp)
          · rw [if_neg c9] at H
            exact absurd H (by simp)
        · rw [if_neg c7] at H
          exact absurd H (by simp)
      · rw [if_neg c6] at H
        exact absurd H (by simp)
    · rw [if_neg c4] at H
      exact absurd H (by simp)
  · rw [if_neg c3] at H
    exact absurd H (by simp)

/-! ### strings_Cut: function 42 (by hand): at a separator of one byte -/
def strings_Cut.at (a0 : ByteArray) (c : UInt8) : ByteArray × ByteArray × Bool := if 0 ≤ Lib.indexByte a0.data.toList c then (a0.extract 0 (Lib.indexByte a0.data.toList c).toNat, a0.extract ((Lib.indexByte a0.data.toList c).toNat + 1) a0.size, true) else (a0, ⟨#[]⟩, false)
set_option maxHeartbeats 1000000 in
set_option maxRecDepth 100000 in
theorem strings_Cut.lite (s : ByteArray) (c : UInt8) (w : World) (hs : s.size ≤ 9223372036854775806) :
    Calls Tryd.prog 59 #[.string s, .string ⟨#[c]⟩] w fun e w' => e = .returned (.tuple #[.string (strings_Cut.at s c).1, .string (strings_Cut.at s c).2.1, .bool (strings_Cut.at s c).2.2]) ∧ Drawn0 w w' := by
  by_cases h : 0 ≤ Lib.indexByte s.data.toList c
  · obtain ⟨o, ho⟩ : ∃ o : Nat, Lib.indexByte s.data.toList c = o := ⟨(Lib.indexByte s.data.toList c).toNat, by omega⟩
    have hlt : o < s.size := by
      have := (Lib.indexByte_some ho).1
      exact (List.getElem?_eq_some_iff.mp this).1
    have ea : strings_Cut.at s c = (s.extract 0 o, s.extract (o + 1) s.size, true) := by unfold strings_Cut.at; rw [if_pos h, ho, Int.toNat_natCast]
    rw [ea]
    have HO := Aside0.mk ho
    clear h ho ea
    have e1 : decide ((0 : Int) ≤ (o : Int)) = true := decide_eq_true (by omega)
    go_enter Tryd.func59, Tryd.ntmps59
    go_wp2_with (go_at_call 65; refine (Tryd.stringslite_Index_one s c _).mono ?_; rintro e w' ⟨rfl, rfl⟩; rw [HO.out])
    go_quiet (fail)
    go_wp2
    go_ret3
    exact ⟨rfl, by repeat (first | exact Drawn0.refl _ | apply Drawn0.step)⟩
  · have ea : strings_Cut.at s c = (s, ⟨#[]⟩, false) := by unfold strings_Cut.at; rw [if_neg h]
    rw [ea]
    obtain ⟨i, hi⟩ : ∃ i : Int, Lib.indexByte s.data.toList c = i := ⟨_, rfl⟩
    rw [hi] at h
    have HO := Aside0.mk hi
    have e1 : decide (0 ≤ i) = false := decide_eq_false h
    clear h hi ea
    go_enter Tryd.func59, Tryd.ntmps59
    go_wp2_with (go_at_call 65; refine (Tryd.stringslite_Index_one s c _).mono ?_; rintro e w' ⟨rfl, rfl⟩; rw [HO.out])
    go_ret3
    exact ⟨rfl, by repeat (first | exact Drawn0.refl _ | apply Drawn0.step)⟩
def strings_Cut.f (a0 : ByteArray) (a1 : ByteArray) : Option (ByteArray × ByteArray × Bool) := match a1.data.toList with
  | [c] => if a0.size ≤ 9223372036854775806 then some (strings_Cut.at a0 c) else none
  | _ => none
set_option maxHeartbeats 1000000 in
set_option maxRecDepth 100000 in
theorem strings_Cut.calls (a0 : ByteArray) (a1 : ByteArray) (r1 : ByteArray) (r2 : ByteArray) (r3 : Bool) (w : World) (h : strings_Cut.f a0 a1 = some (r1, r2, r3)) :
    Calls Tryd.prog 42 #[.string a0, .string a1] w fun e w' => e = .returned (.tuple #[.string r1, .string r2, .bool r3]) ∧ Drawn0 w w' := by
  unfold strings_Cut.f at h
  split at h
  · rename_i c hc
    split at h
    · rename_i hs
      have h := Option.some.inj h
      have e1 : a1 = ⟨#[c]⟩ := by
        obtain ⟨⟨l⟩⟩ := a1
        simp only at hc
        rw [hc]
      subst e1
      have HL := strings_Cut.lite a0 c
      rw [h] at HL
      have HL := Aside0.mk HL
      have HS := Aside0.mk hs
      clear h hc hs
      go_enter Tryd.func42, Tryd.ntmps42
      go_wp2_with (go_at_call 59; refine (HL.out _ HS.out).mono ?_; rintro e w' ⟨rfl, ⟨nd, rfl⟩⟩)
      go_ret3
      exact ⟨rfl, by repeat (first | exact Drawn0.refl _ | apply Drawn0.step)⟩
    · cases h
  · cases h


/-! ### strings_Split: function 50 (by hand, by the shelf's contract): at a separator of one byte -/
def strings_Split.f (a0 : ByteArray) (a1 : ByteArray) : Option (List ByteArray) := match a1.data.toList with
  | [_] => if a0.size < 4294967281 then some (Lib.splitB a1 0 (Lib.countB a0 a1) a0) else none
  | _ => none
set_option maxRecDepth 100000 in
theorem strings_Split.calls (a0 : ByteArray) (a1 : ByteArray) (r : List ByteArray) (w : World) (hT : Tab w) (h : strings_Split.f a0 a1 = some r) :
    Calls Tryd.prog 50 #[.string a0, .string a1] w fun e w' => ∃ v0_ : Value, e = .returned v0_ ∧ Kd.R Kd.string 9 w' w.heap.size (fun _ => True) v0_ r ∧ Below w.heap.size w w' := by
  unfold strings_Split.f at h
  split at h
  · rename_i c hc
    split at h
    · rename_i hs
      obtain rfl := Option.some.inj h
      have h1 : 1 ≤ a1.size := by
        have e := congrArg List.length hc
        rw [Array.length_toList] at e
        have e2 : a1.data.size = 1 := e
        show 1 ≤ a1.data.size
        omega
      obtain ⟨m, hm⟩ := hT.ml
      have hlen := Lib.splitB_all a1 h1 0 _ a0 rfl
      have hle := Lib.countB_le a1 h1 a0.size a0 (Nat.le_refl _)
      refine (Tryd.strings_Split a0 a1 m w hs hm h1).mono ?_
      rintro e w' ⟨rfl, rfl⟩
      refine ⟨_, rfl, Kd.R_of_own ?_ (fun _ _ => trivial), below_alloc (Below.refl _ _) _⟩
      have ho := World.ownsRow_lit (base := w.heap.size) (e := 9) (size := 1) w ((Lib.splitB a1 0 (Lib.countB a0 a1) a0).map Value.string).toArray (Lib.splitB a1 0 (Lib.countB a0 a1) a0).length (Nat.le_refl _) (by unfold maxLen; omega) (by simp)
      rw [hlen] at ho ⊢
      simpa [encs] using ho
    · cases h
  · cases h


/-! ### impl_ParseInt: function 20 (by hand, by the shelf's contracts) -/
def impl_ParseInt.f (a0 : ByteArray) : Option (Int × Bool) := if a0.size ≤ 281474976710656 then (match Lib.atoiAll a0.data.toList with
  | .ok n => if -9223372036854775808 ≤ n ∧ n ≤ 9223372036854775807 then (impl_decimal.f n).bind fun t => if t.toList = a0.toList then (impl_within.f n (-999999) 999999).bind fun b => if b = true then some (n, true) else some (0, false) else some (0, false) else none
  | _ => some (0, false)) else none
set_option maxHeartbeats 1000000 in
set_option maxRecDepth 100000 in
theorem impl_ParseInt.calls (a0 : ByteArray) (r1 : Int) (r2 : Bool) (w : World) (hT : Tab w) (h : impl_ParseInt.f a0 = some (r1, r2)) :
    Calls Tryd.prog 20 #[.string a0] w fun e w' => e = .returned (.tuple #[.int .i64 r1, .bool r2]) ∧ Below w.heap.size w w' := by
  unfold impl_ParseInt.f at h
  by_cases hs : a0.size ≤ 281474976710656
  case neg => rw [if_neg hs] at h; cases h
  rw [if_pos hs] at h
  have HT := Aside0.mk hT
  have HS := Aside0.mk hs
  have HB := Aside0.mk (Below.refl w.heap.size w)
  cases hat : Lib.atoiAll a0.data.toList with
  | ok n =>
    rw [hat] at h
    simp only at h
    by_cases hb : -9223372036854775808 ≤ n ∧ n ≤ 9223372036854775807
    case neg => rw [if_neg hb] at h; cases h
    rw [if_pos hb] at h
    obtain ⟨t, ht, h⟩ := Option.bind_eq_some_iff.mp h
    have HAT := Aside0.mk hat
    have HD := Aside0.mk ht
    clear hat ht hT hs hb
    by_cases c : t.toList = a0.toList
    · rw [if_pos c] at h
      obtain ⟨b, hw, h⟩ := Option.bind_eq_some_iff.mp h
      have HW := Aside0.mk hw
      have c1 : (t.toList == a0.toList) = true := by simp [c]
      have c2 : (t.toList != a0.toList) = false := by simp [c]
      clear c hw
      cases b with
      | true =>
        simp only [if_true, Option.some.injEq, Prod.mk.injEq] at h
        obtain ⟨rfl, rfl⟩ := h
        go_enter Tryd.func20, Tryd.ntmps20
        go_wp2_with (first
          | (go_at_call 44; refine (Tryd.strconv_Atoi_ok a0 (by have := HS.out; omega) n HAT.out _).mono ?_; rintro e w1 ⟨rfl, hq⟩; have HB1 := Aside0.mk (show Below w.heap.size w w1 from by rcases hq with rfl | ⟨t, rfl⟩ <;> first | exact Below.refl _ _ | exact Lib.bytesWorld_below _ _ _); clear hq)
          | (go_at_call 32; refine (impl_decimal.calls n t _ (HT.out.below HB1.out) HD.out).mono ?_; rintro e w2 ⟨rfl, hb2⟩; have HB2 := Aside0.mk (below_step HB1.out hb2); clear hb2)
          | (go_at_call 31; refine (impl_within.calls n (-999999) 999999 true _ HW.out).mono ?_; rintro e w3 ⟨rfl, ⟨nd, rfl⟩⟩))
        go_ret2
        exact ⟨rfl, by repeat (first | (with_reducible first | exact HB2.out | apply below_alloc | apply pw_below_drewN | apply below_drew1) | exact HB2.out)⟩
      | false =>
        simp only [Bool.false_eq_true, if_false, Option.some.injEq, Prod.mk.injEq] at h
        obtain ⟨rfl, rfl⟩ := h
        go_enter Tryd.func20, Tryd.ntmps20
        go_wp2_with (first
          | (go_at_call 44; refine (Tryd.strconv_Atoi_ok a0 (by have := HS.out; omega) n HAT.out _).mono ?_; rintro e w1 ⟨rfl, hq⟩; have HB1 := Aside0.mk (show Below w.heap.size w w1 from by rcases hq with rfl | ⟨t, rfl⟩ <;> first | exact Below.refl _ _ | exact Lib.bytesWorld_below _ _ _); clear hq)
          | (go_at_call 32; refine (impl_decimal.calls n t _ (HT.out.below HB1.out) HD.out).mono ?_; rintro e w2 ⟨rfl, hb2⟩; have HB2 := Aside0.mk (below_step HB1.out hb2); clear hb2)
          | (go_at_call 31; refine (impl_within.calls n (-999999) 999999 false _ HW.out).mono ?_; rintro e w3 ⟨rfl, ⟨nd, rfl⟩⟩))
        go_ret2
        exact ⟨rfl, by repeat (first | (with_reducible first | exact HB2.out | apply below_alloc | apply pw_below_drewN | apply below_drew1) | exact HB2.out)⟩
    · rw [if_neg c] at h
      have c1 : (t.toList == a0.toList) = false := by simp [c]
      have c2 : (t.toList != a0.toList) = true := by simp [c]
      clear c
      simp only [Option.some.injEq, Prod.mk.injEq] at h
      obtain ⟨rfl, rfl⟩ := h
      go_enter Tryd.func20, Tryd.ntmps20
      go_wp2_with (first
        | (go_at_call 44; refine (Tryd.strconv_Atoi_ok a0 (by have := HS.out; omega) n HAT.out _).mono ?_; rintro e w1 ⟨rfl, hq⟩; have HB1 := Aside0.mk (show Below w.heap.size w w1 from by rcases hq with rfl | ⟨t, rfl⟩ <;> first | exact Below.refl _ _ | exact Lib.bytesWorld_below _ _ _); clear hq)
        | (go_at_call 32; refine (impl_decimal.calls n t _ (HT.out.below HB1.out) HD.out).mono ?_; rintro e w2 ⟨rfl, hb2⟩; have HB2 := Aside0.mk (below_step HB1.out hb2); clear hb2))
      go_ret2
      exact ⟨rfl, by repeat (first | (with_reducible first | exact HB2.out | apply below_alloc | apply pw_below_drewN | apply below_drew1) | exact HB2.out)⟩
  | range =>
    rw [hat] at h
    simp only [Option.some.injEq, Prod.mk.injEq] at h
    obtain ⟨rfl, rfl⟩ := h
    have HAT := Aside0.mk hat
    obtain ⟨tp, p, hv⟩ := HT.out.errRng
    have HV := Aside0.mk hv
    clear hat hT hs hv
    go_enter Tryd.func20, Tryd.ntmps20
    go_wp2_with (go_at_call 44; refine (Tryd.strconv_Atoi_range_var a0 HS.out HAT.out tp p _ HV.out).mono ?_; rintro e w1 ⟨N, rfl, hN, hq, hb⟩; have HB1 := Aside0.mk hb; clear hq hb hN)
    go_ret2
    exact ⟨rfl, by repeat (first | (with_reducible first | exact HB1.out | apply below_alloc | apply pw_below_drewN | apply below_drew1) | exact HB1.out)⟩


  | _ =>
    rw [hat] at h
    simp only [Option.some.injEq, Prod.mk.injEq] at h
    obtain ⟨rfl, rfl⟩ := h
    have HAT := Aside0.mk hat
    obtain ⟨tp, p, hv⟩ := HT.out.errSyn
    have HV := Aside0.mk hv
    clear hat hT hs hv
    go_enter Tryd.func20, Tryd.ntmps20
    go_wp2_with (go_at_call 44; refine (Tryd.strconv_Atoi_syntax_var a0 HS.out HAT.out tp p _ HV.out).mono ?_; rintro e w1 ⟨N, rfl, hN, hq, hb⟩; have HB1 := Aside0.mk hb; clear hq hb hN)
    go_ret2
    exact ⟨rfl, by repeat (first | (with_reducible first | exact HB1.out | apply below_alloc | apply pw_below_drewN | apply below_drew1) | exact HB1.out)⟩
/-! ### impl_parseInts: function 51 -/
def impl_parseInts.l0 : Nat → List Int → List ByteArray → Int → Int → Option (List Int × Bool)
  | 0, _, _, _, _ => none
  | k + 1, x4, x9, x10, x11 => if x11 < x10 then (if 0 ≤ x11 then (if x11 < (x9.length : Int) then ((impl_ParseInt.f (rdOf ByteArray.empty x9 x11)).bind fun bt177 => (if bt177.2 = true then (if x4.length < 17592186044416 then (impl_parseInts.l0 k (x4 ++ [bt177.1]) x9 x10 (wrap64 (x11 + 1))) else (none)) else (some (([] : List Int), false)))) else (none)) else (none)) else (some (x4, true))
def impl_parseInts.f (k : Nat) (l0 : List ByteArray) : Option (List Int × Bool) := impl_parseInts.l0 k ([] : List Int) l0 (l0.length : Int) 0
theorem impl_parseInts.mono_l : ∀ k, (∀ y0 y1 y2 y3, LeO (impl_parseInts.l0 k y0 y1 y2 y3) (impl_parseInts.l0 (k + 1) y0 y1 y2 y3))
  | 0 => fun _ _ _ _ r h => by simp [impl_parseInts.l0] at h
  | k + 1 => by
    have ih0 := impl_parseInts.mono_l k
    · intro y0 y1 y2 y3
      unfold impl_parseInts.l0
      repeat' first
      | (with_reducible exact ih0 _ _ _ _)
      | (with_reducible exact LeO.refl _)
      | (with_reducible exact LeO.none _)
      | (with_reducible refine LeO.ite ?_ ?_)
      | (with_reducible refine LeO.bind ?_ (fun _ => ?_))
      | exact ih0 _ _ _ _
      | exact LeO.none _
      | refine LeO.ite ?_ ?_
      | refine LeO.bind ?_ (fun _ => ?_)
theorem impl_parseInts.mono : ∀ a0 k, LeO (impl_parseInts.f k a0) (impl_parseInts.f (k + 1) a0) := by
  intro a0 k
  have ih0 := impl_parseInts.mono_l k
  unfold impl_parseInts.f
  repeat' first
      | (with_reducible exact ih0 _ _ _ _)
      | (with_reducible exact LeO.refl _)
      | (with_reducible exact LeO.none _)
      | (with_reducible refine LeO.ite ?_ ?_)
      | (with_reducible refine LeO.bind ?_ (fun _ => ?_))
      | exact ih0 _ _ _ _
      | exact LeO.none _
      | refine LeO.ite ?_ ?_
      | refine LeO.bind ?_ (fun _ => ?_)
set_option maxHeartbeats 8000000 in
set_option maxRecDepth 100000 in
theorem impl_parseInts.calls (k : Nat) (A0 : Option Addr) (c0 : Nat) (l0 : List ByteArray) (r1 : List Int) (r2 : Bool) (w : World) (hT : Tab w) (hr0 : Kd.C Kd.string w A0 l0.length l0) (hc0 : l0.length ≤ c0) (h : impl_parseInts.f k l0 = some (r1, r2)) :
    Calls Tryd.prog 51 #[.slice A0 l0.length c0] w fun e w' => ∃ v0_ : Value, e = .returned (.tuple #[v0_, .bool r2]) ∧ Kd.R (Kd.int .i64) 3 w' w.heap.size (fun _ => True) v0_ r1 ∧ Below w.heap.size w w' := by
  have HT := Aside0.mk hT
  clear hT
  have HR0 := Aside0.mk hr0
  have HC0 := Aside0.mk hc0
  clear hr0 hc0
  have HB := Aside0.mk (Below.refl w.heap.size w)
  have H : (impl_parseInts.l0 k ([] : List Int) l0 (l0.length : Int) 0) = some (r1, r2) := h
  clear h
  have H' := Aside0.mk H
  clear H
  go_enter Tryd.func51, Tryd.ntmps51
  go_wp2
  go_loopg [4, 11] k (fun kq v4 v11 w' => ∃ (x4_1 : List Int) (x11_1 : Int), v11 = .int .i64 x11_1 ∧ Aside0 (impl_parseInts.l0 kq x4_1 l0 (l0.length : Int) x11_1 = some (r1, r2)) ∧ Aside0 (kq ≤ k) ∧ Aside0 (Kd.R (Kd.int .i64) 3 w' w.heap.size (fun _ => True) v4 x4_1) ∧ Aside0 (Below w.heap.size w w'))
  case atStart => exact ⟨(([] : List Int)), (0), (by first | rfl | (simp; done) | (simp [*]; done)), H', ⟨Nat.le_refl _⟩, ⟨by first | exact Kd.R_nil _ _ _ _ _ | exact Kd.N_nil _ _ _ _ _ | exact Kd.V_nil _ _ _ _ _ | exact Kd.Q_nil _ _ _ _ _ | exact Kd.S_nil _ _ _ _ _⟩, ⟨by repeat (first | (with_reducible first | exact HB.out | apply below_alloc | apply pw_below_drewN | apply below_drew1) | exact HB.out)⟩⟩
  case round =>
    clear H'
    obtain ⟨x4_1, x11_1, rfl, HA, HK1, HO_4, HB⟩ := hrel
    cases gk with
    | zero => exact absurd HA.out (by simp [impl_parseInts.l0])
    | succ k1 =>
      have H := HA.out
      clear HA
      simp only [impl_parseInts.l0] at H
      by_cases c2 : x11_1 < (l0.length : Int)
      · rw [if_pos c2] at H
        have c2b0 : decide (x11_1 < (l0.length : Int)) = true := decide_eq_true c2
        clear c2
        by_cases c3 : 0 ≤ x11_1
        · rw [if_pos c3] at H
          have c3b0 : decide (0 ≤ x11_1) = true := decide_eq_true c3
          clear c3
          by_cases c4 : x11_1 < (l0.length : Int)
          · rw [if_pos c4] at H
            have c4b0 : decide (x11_1 < (l0.length : Int)) = true := decide_eq_true c4
            clear c4
            replace H := Option.bind_eq_some_iff.mp H
            obtain ⟨⟨t177, t178⟩, A50, H⟩ := H
            replace H : (if t178 = true then (if x4_1.length < 17592186044416 then (impl_parseInts.l0 k1 (x4_1 ++ [t177]) l0 (l0.length : Int) (wrap64 (x11_1 + 1))) else (none)) else (some (([] : List Int), false))) = some (r1, r2) := H
            have A5 := Aside0.mk A50
            clear A50
            by_cases c6 : t178 = true
            · subst c6
              have H1 : (if x4_1.length < 17592186044416 then (impl_parseInts.l0 k1 (x4_1 ++ [t177]) l0 (l0.length : Int) (wrap64 (x11_1 + 1))) else (none)) = some (r1, r2) := by rw [if_pos rfl] at H; exact H
              clear H
              have H := H1
              clear H1
              by_cases c7 : x4_1.length < 17592186044416
              · rw [if_pos c7] at H
                have LMc7 := Aside0.mk c7
                clear c7
                obtain ⟨y179, hy179⟩ : ∃ y_ : List Int, y_ = (x4_1 ++ [t177]) := ⟨_, rfl⟩
                replace H : (impl_parseInts.l0 k1 y179 l0 (l0.length : Int) (wrap64 (x11_1 + 1))) = some (r1, r2) := by first | (rw [hy179]; with_reducible exact H) | (have H2_ := (Option.bind_some _ _).symm.trans H; rw [hy179]; with_reducible exact H2_) | (have H2_ := (Option.bind_some _ _).symm.trans H; with_reducible exact H2_) | with_reducible exact H | (rw [hy179]; exact H) | exact H
                have Ny179 := Aside0.mk hy179
                clear hy179
                have H' := Aside0.mk H
                clear H
                have p176 : 0 ≤ (x11_1 : Int) := of_decide_eq_true (by first | (with_reducible assumption) | assumption)
                have q176 : x11_1 < (l0.length : Int) := of_decide_eq_true (by first | (with_reducible assumption) | assumption)
                obtain ⟨ad176, e176, hx176_0⟩ := Kd.at_string HR0.out x11_1 p176 q176
                cases e176
                replace hx176_0 := (HB.out.cell (World.block_lt_of_cell? w _ hx176_0)).trans hx176_0
                replace p176 := eq_true p176
                replace q176 := eq_true q176
                go_wp2_with (first | ((with_reducible refine gate_callee (f := 20) rfl ?_); refine goesL_ (some 17) rfl rfl Tryd.func20 (by kernel_rfl) rfl #[.string (rdOf ByteArray.empty l0 x11_1)] rfl (by (try simp only [List.map_toArray, List.map_cons, List.map_nil]); first | done | rfl | (simp only [List.length_drop, List.length_take]; rfl)) ?_; (with_reducible refine (impl_ParseInt.calls (rdOf ByteArray.empty l0 x11_1) t177 true _ ?sideT A5.out).mono ?_); (case sideT => first | exact HT.out | (refine Tab.drawn HT.out ?_; (repeat (first | exact Drawn0.refl _ | apply Drawn0.step)); done) | (refine Tab.below HT.out ?_; repeat (first | (with_reducible first | exact HB.out | apply below_alloc | apply pw_below_drewN | apply below_drew1) | exact HB.out))); rintro e w8 ⟨rfl, hb⟩; refine ⟨_, rfl, ?_⟩; have n0_ := Aside0.mk (Kd.R_below (by (with_reducible repeat (first | apply Kd.R_alloc | apply Kd.R_drewN | apply Kd.R_drew)); exact HO_4.out) hb); have n1_ := Aside0.mk (below_step (by repeat (first | (with_reducible first | exact HB.out | apply below_alloc | apply pw_below_drewN | apply below_drew1) | exact HB.out)) hb); clear HO_4; clear HB; have HO_4 := n0_; have HB := n1_; clear n0_ n1_; (try clear hb); (try clear hb2); (try clear hk); (try clear hi)) | ((with_reducible refine gate_builtin (b := .append) (xs := #[.tmp 22, .tmp 24]) rfl ?_); at_builtin; refine Kd.R_append (Kd.int .i64) (w0 := w) w.heap.size rfl (.tmp 22) (.tmp 24) 65 3 (.int .i64 0) 8 rfl Tryd.underlying65 info3 rfl (by decide) (by omega) u4 x4_1 t177 [.int .i64 t177] (fun _ => True) (fun _ => False) rfl rfl ?aP (fun _ hk => hk.elim) ?aF ?aO ?aB ?aS ?aL ?_; (case aP => exact rfl); (case aB => exact (by repeat (first | (with_reducible first | exact HB.out | apply below_alloc | apply pw_below_drewN | apply below_drew1) | exact HB.out))); (case aF => exact (fun _ _ => trivial)); (case aO => exact (by (with_reducible repeat (first | apply Kd.R_alloc | apply Kd.R_drewN | apply Kd.R_drew)); exact HO_4.out)); (case aS => exact (below_size (by repeat (first | (with_reducible first | exact HB.out | apply below_alloc | apply pw_below_drewN | apply below_drew1) | exact HB.out)))); (case aL => have := LMc7.out; omega); intro v180 w9 ho hb hg hat; rw [← Ny179.out] at ho; have n0_ := Aside0.mk (hb); have n1_ := Aside0.mk (ho); clear HB; clear HO_4; have HB := n0_; have HO181 := n1_; clear n0_ n1_; clear ho hb hg hat))
                go_roundg k1
                case measure => have := HK1.out; omega
                case rel => exact ⟨(y179), (wrap64 (x11_1 + 1)), (by first | rfl | (simp; done) | (simp [*]; done)), H', ⟨by have := HK1.out; omega⟩, ⟨by (with_reducible repeat (first | apply Kd.R_alloc | apply Kd.R_drewN | apply Kd.R_drew)); exact HO181.out⟩, ⟨by repeat (first | (with_reducible first | exact HB.out | apply below_alloc | apply pw_below_drewN | apply below_drew1) | exact HB.out)⟩⟩
              · rw [if_neg c7] at H
                exact absurd H (by simp)
            · replace c6 := Bool.eq_false_iff.mpr c6
              subst c6
              have H1 : (some (([] : List Int), false)) = some (r1, r2) := by rw [if_neg (show ¬ (false = true) by decide)] at H; exact H
              clear H
              have H := H1
              clear H1
              simp only [Option.some.injEq, Prod.mk.injEq] at H
              obtain ⟨rfl, rfl⟩ := H
              have p176 : 0 ≤ (x11_1 : Int) := of_decide_eq_true (by first | (with_reducible assumption) | assumption)
              have q176 : x11_1 < (l0.length : Int) := of_decide_eq_true (by first | (with_reducible assumption) | assumption)
              obtain ⟨ad176, e176, hx176_0⟩ := Kd.at_string HR0.out x11_1 p176 q176
              cases e176
              replace hx176_0 := (HB.out.cell (World.block_lt_of_cell? w _ hx176_0)).trans hx176_0
              replace p176 := eq_true p176
              replace q176 := eq_true q176
              go_wp2_with (first | ((with_reducible refine gate_callee (f := 20) rfl ?_); refine goesL_ (some 17) rfl rfl Tryd.func20 (by kernel_rfl) rfl #[.string (rdOf ByteArray.empty l0 x11_1)] rfl (by (try simp only [List.map_toArray, List.map_cons, List.map_nil]); first | done | rfl | (simp only [List.length_drop, List.length_take]; rfl)) ?_; (with_reducible refine (impl_ParseInt.calls (rdOf ByteArray.empty l0 x11_1) t177 false _ ?sideT A5.out).mono ?_); (case sideT => first | exact HT.out | (refine Tab.drawn HT.out ?_; (repeat (first | exact Drawn0.refl _ | apply Drawn0.step)); done) | (refine Tab.below HT.out ?_; repeat (first | (with_reducible first | exact HB.out | apply below_alloc | apply pw_below_drewN | apply below_drew1) | exact HB.out))); rintro e w10 ⟨rfl, hb⟩; refine ⟨_, rfl, ?_⟩; have n0_ := Aside0.mk (Kd.R_below (by (with_reducible repeat (first | apply Kd.R_alloc | apply Kd.R_drewN | apply Kd.R_drew)); exact HO_4.out) hb); have n1_ := Aside0.mk (below_step (by repeat (first | (with_reducible first | exact HB.out | apply below_alloc | apply pw_below_drewN | apply below_drew1) | exact HB.out)) hb); clear HO_4; clear HB; have HO_4 := n0_; have HB := n1_; clear n0_ n1_; (try clear hb); (try clear hb2); (try clear hk); (try clear hi)))
              go_ret2
              exact ⟨_, by first | rfl | (simp [errW_none, errW_some] <;> rfl) | (simp [*, errW_none, errW_some] <;> rfl), by first | exact Kd.R_nil _ _ _ _ _ | exact Kd.N_nil _ _ _ _ _ | exact Kd.V_nil _ _ _ _ _ | exact Kd.Q_nil _ _ _ _ _ | exact Kd.S_nil _ _ _ _ _, by repeat (first | (with_reducible first | exact HB.out | apply below_alloc | apply pw_below_drewN | apply below_drew1) | exact HB.out)⟩
          · rw [if_neg c4] at H
            exact absurd H (by simp)
        · rw [if_neg c3] at H
          exact absurd H (by simp)
      · rw [if_neg c2] at H
        have c2b0 : decide (x11_1 < (l0.length : Int)) = false := decide_eq_false c2
        clear c2
        simp only [Option.some.injEq, Prod.mk.injEq] at H
        obtain ⟨rfl, rfl⟩ := H
        go_wp2
        go_ret2
        exact ⟨_, by first | rfl | (simp [errW_none, errW_some] <;> rfl) | (simp [*, errW_none, errW_some] <;> rfl), by (with_reducible repeat (first | apply Kd.R_alloc | apply Kd.R_drewN | apply Kd.R_drew)); exact HO_4.out, by repeat (first | (with_reducible first | exact HB.out | apply below_alloc | apply pw_below_drewN | apply below_drew1) | exact HB.out)⟩

end Go.Proofs.YtcmccjiimiomhaaDoor.XFnExactParseLeg
