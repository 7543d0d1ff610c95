/- Contracts of the functions that the law FnExactParseLeg comes to: each is told as a plain function of its arguments, and the machine's call does what that function says; no condition. Written by programs (print.py, xprint.py); Lean checks it. -/
import Derived.Test.YtcmccjiimiomhaaDoorXFnExactParseLegx0
import Derived.Test.YtcmccjiimiomhaaDoorXFnExactParseLegx1
namespace Go.Proofs.YtcmccjiimiomhaaDoor.XFnExactParseLeg
open Go.RowKit Go.Proofs.YtcmccjiimiomhaaDoorW.PrintWords Go.Proofs.YtcmccjiimiomhaaDoorW.PrintLast Go.Proofs.YtcmccjiimiomhaaDoorW.PrintMore
attribute [local go_sem] max2_int min2_int max_two min_two max_three min_three max_four min_four   -- for this text's walks alone
set_option linter.unusedVariables false
set_option linter.unusedSimpArgs false

/-! ### spec_l4Text: function 34 -/
def spec_l4Text.f (k : Nat) (a0_0 : Int) (a0_1 : Int) (a0_2 : Int) (a0_3 : Int) (a0_4 : Int) : Option (ByteArray) := (spec_l1Num.f k a0_0).bind fun t112 => (if 4 + t112.size ≤ 9223372036854775807 then (if ((⟨#[108, 101, 103, 32]⟩ : ByteArray) ++ t112).size + 1 ≤ 9223372036854775807 then ((spec_l1Num.f k a0_1).bind fun t113 => (if (((⟨#[108, 101, 103, 32]⟩ : ByteArray) ++ t112) ++ (⟨#[45]⟩ : ByteArray)).size + t113.size ≤ 9223372036854775807 then (if ((((⟨#[108, 101, 103, 32]⟩ : ByteArray) ++ t112) ++ (⟨#[45]⟩ : ByteArray)) ++ t113).size + 6 ≤ 9223372036854775807 then ((spec_l1Num.f k a0_2).bind fun t114 => (if (((((⟨#[108, 101, 103, 32]⟩ : ByteArray) ++ t112) ++ (⟨#[45]⟩ : ByteArray)) ++ t113) ++ (⟨#[32, 116, 97, 112, 101, 32]⟩ : ByteArray)).size + t114.size ≤ 9223372036854775807 then (if ((((((⟨#[108, 101, 103, 32]⟩ : ByteArray) ++ t112) ++ (⟨#[45]⟩ : ByteArray)) ++ t113) ++ (⟨#[32, 116, 97, 112, 101, 32]⟩ : ByteArray)) ++ t114).size + 9 ≤ 9223372036854775807 then ((spec_l1Num.f k a0_3).bind fun t115 => (if (((((((⟨#[108, 101, 103, 32]⟩ : ByteArray) ++ t112) ++ (⟨#[45]⟩ : ByteArray)) ++ t113) ++ (⟨#[32, 116, 97, 112, 101, 32]⟩ : ByteArray)) ++ t114) ++ (⟨#[32, 99, 111, 109, 112, 97, 115, 115, 32]⟩ : ByteArray)).size + t115.size ≤ 9223372036854775807 then (if ((((((((⟨#[108, 101, 103, 32]⟩ : ByteArray) ++ t112) ++ (⟨#[45]⟩ : ByteArray)) ++ t113) ++ (⟨#[32, 116, 97, 112, 101, 32]⟩ : ByteArray)) ++ t114) ++ (⟨#[32, 99, 111, 109, 112, 97, 115, 115, 32]⟩ : ByteArray)) ++ t115).size + 7 ≤ 9223372036854775807 then (if a0_4 < 0 then (if (((((((((⟨#[108, 101, 103, 32]⟩ : ByteArray) ++ t112) ++ (⟨#[45]⟩ : ByteArray)) ++ t113) ++ (⟨#[32, 116, 97, 112, 101, 32]⟩ : ByteArray)) ++ t114) ++ (⟨#[32, 99, 111, 109, 112, 97, 115, 115, 32]⟩ : ByteArray)) ++ t115) ++ (⟨#[32, 115, 108, 111, 112, 101, 32]⟩ : ByteArray)).size + 1 ≤ 9223372036854775807 then ((spec_l1Num.f k (wrap64 (-a0_4))).bind fun t116 => (if ((((((((((⟨#[108, 101, 103, 32]⟩ : ByteArray) ++ t112) ++ (⟨#[45]⟩ : ByteArray)) ++ t113) ++ (⟨#[32, 116, 97, 112, 101, 32]⟩ : ByteArray)) ++ t114) ++ (⟨#[32, 99, 111, 109, 112, 97, 115, 115, 32]⟩ : ByteArray)) ++ t115) ++ (⟨#[32, 115, 108, 111, 112, 101, 32]⟩ : ByteArray)) ++ (⟨#[45]⟩ : ByteArray)).size + t116.size ≤ 9223372036854775807 then (some (((((((((((⟨#[108, 101, 103, 32]⟩ : ByteArray) ++ t112) ++ (⟨#[45]⟩ : ByteArray)) ++ t113) ++ (⟨#[32, 116, 97, 112, 101, 32]⟩ : ByteArray)) ++ t114) ++ (⟨#[32, 99, 111, 109, 112, 97, 115, 115, 32]⟩ : ByteArray)) ++ t115) ++ (⟨#[32, 115, 108, 111, 112, 101, 32]⟩ : ByteArray)) ++ (⟨#[45]⟩ : ByteArray)) ++ t116)) else (none))) else (none)) else ((spec_l1Num.f k a0_4).bind fun t117 => (if (((((((((⟨#[108, 101, 103, 32]⟩ : ByteArray) ++ t112) ++ (⟨#[45]⟩ : ByteArray)) ++ t113) ++ (⟨#[32, 116, 97, 112, 101, 32]⟩ : ByteArray)) ++ t114) ++ (⟨#[32, 99, 111, 109, 112, 97, 115, 115, 32]⟩ : ByteArray)) ++ t115) ++ (⟨#[32, 115, 108, 111, 112, 101, 32]⟩ : ByteArray)).size + t117.size ≤ 9223372036854775807 then (some ((((((((((⟨#[108, 101, 103, 32]⟩ : ByteArray) ++ t112) ++ (⟨#[45]⟩ : ByteArray)) ++ t113) ++ (⟨#[32, 116, 97, 112, 101, 32]⟩ : ByteArray)) ++ t114) ++ (⟨#[32, 99, 111, 109, 112, 97, 115, 115, 32]⟩ : ByteArray)) ++ t115) ++ (⟨#[32, 115, 108, 111, 112, 101, 32]⟩ : ByteArray)) ++ t117)) else (none)))) else (none)) else (none))) else (none)) else (none))) else (none)) else (none))) else (none)) else (none))
theorem spec_l4Text.mono : ∀ a0 a1 a2 a3 a4 k, LeO (spec_l4Text.f k a0 a1 a2 a3 a4) (spec_l4Text.f (k + 1) a0 a1 a2 a3 a4) := by
  intro a0 a1 a2 a3 a4 k
  unfold spec_l4Text.f
  repeat' first
      | (with_reducible exact spec_l1Num.mono _ _)
      | (with_reducible exact LeO.refl _)
      | (with_reducible exact LeO.none _)
      | (with_reducible refine LeO.ite ?_ ?_)
      | (with_reducible refine LeO.bind ?_ (fun _ => ?_))
      | exact spec_l1Num.mono _ _
      | exact LeO.none _
      | refine LeO.ite ?_ ?_
      | refine LeO.bind ?_ (fun _ => ?_)
def spec_l4Text.T1 : Bool × List (List Nat × List Nat) := (true, [([], []), ([0], [0]), ([1], [1]), ([2], [2]), ([3], [3]), ([], []), ([5], [5]), ([6, 2], [6]), ([4, 7], [4, 7]), ([8], [8]), ([], []), ([10], [10]), ([11, 7], [11]), ([9, 12], [9, 12]), ([13], [13]), ([], []), ([15], [15]), ([16, 12], [16]), ([14, 17], [14, 17]), ([18], [18]), ([19, 17, 0, 1, 2, 3, 4, 5, 6, 7, 8, 9, 10, 11, 12, 13, 14, 15, 16, 17, 18, 19], [19])])
def spec_l4Text.B1 : List Nat := [0, 1, 3, 7, 15, 0, 32, 103, 255, 511, 0, 1024, 3303, 8191, 16383, 0, 32768, 105703, 262143, 524287, 1048575]
theorem spec_l4Text.tab1 : rtab .any (opsOf Tryd.f34 1) = spec_l4Text.T1 := by kernel_rfl
theorem spec_l4Text.bits1 : waitsOk spec_l4Text.T1.2 spec_l4Text.B1 = true := by kernel_rfl
set_option maxHeartbeats 8000000 in
set_option maxRecDepth 100000 in
theorem spec_l4Text.calls (k : Nat) (a0_0 : Int) (a0_1 : Int) (a0_2 : Int) (a0_3 : Int) (a0_4 : Int) (r : ByteArray) (w : World) (h : spec_l4Text.f k a0_0 a0_1 a0_2 a0_3 a0_4 = some r) :
    Calls Tryd.prog 34 #[.agg #[.int .i64 a0_0, .int .i64 a0_1, .int .i64 a0_2, .int .i64 a0_3, .int .i64 a0_4]] w fun e w' => e = .returned (.string r) ∧ Below w.heap.size w w' := by
  have hu28 := Tryd.underlying28
  have HB := Aside0.mk (Below.refl w.heap.size w)
  have H : ((spec_l1Num.f k a0_0).bind fun t112 => (if 4 + t112.size ≤ 9223372036854775807 then (if ((⟨#[108, 101, 103, 32]⟩ : ByteArray) ++ t112).size + 1 ≤ 9223372036854775807 then ((spec_l1Num.f k a0_1).bind fun t113 => (if (((⟨#[108, 101, 103, 32]⟩ : ByteArray) ++ t112) ++ (⟨#[45]⟩ : ByteArray)).size + t113.size ≤ 9223372036854775807 then (if ((((⟨#[108, 101, 103, 32]⟩ : ByteArray) ++ t112) ++ (⟨#[45]⟩ : ByteArray)) ++ t113).size + 6 ≤ 9223372036854775807 then ((spec_l1Num.f k a0_2).bind fun t114 => (if (((((⟨#[108, 101, 103, 32]⟩ : ByteArray) ++ t112) ++ (⟨#[45]⟩ : ByteArray)) ++ t113) ++ (⟨#[32, 116, 97, 112, 101, 32]⟩ : ByteArray)).size + t114.size ≤ 9223372036854775807 then (if ((((((⟨#[108, 101, 103, 32]⟩ : ByteArray) ++ t112) ++ (⟨#[45]⟩ : ByteArray)) ++ t113) ++ (⟨#[32, 116, 97, 112, 101, 32]⟩ : ByteArray)) ++ t114).size + 9 ≤ 9223372036854775807 then ((spec_l1Num.f k a0_3).bind fun t115 => (if (((((((⟨#[108, 101, 103, 32]⟩ : ByteArray) ++ t112) ++ (⟨#[45]⟩ : ByteArray)) ++ t113) ++ (⟨#[32, 116, 97, 112, 101, 32]⟩ : ByteArray)) ++ t114) ++ (⟨#[32, 99, 111, 109, 112, 97, 115, 115, 32]⟩ : ByteArray)).size + t115.size ≤ 9223372036854775807 then (if ((((((((⟨#[108, 101, 103, 32]⟩ : ByteArray) ++ t112) ++ (⟨#[45]⟩ : ByteArray)) ++ t113) ++ (⟨#[32, 116, 97, 112, 101, 32]⟩ : ByteArray)) ++ t114) ++ (⟨#[32, 99, 111, 109, 112, 97, 115, 115, 32]⟩ : ByteArray)) ++ t115).size + 7 ≤ 9223372036854775807 then (if a0_4 < 0 then (if (((((((((⟨#[108, 101, 103, 32]⟩ : ByteArray) ++ t112) ++ (⟨#[45]⟩ : ByteArray)) ++ t113) ++ (⟨#[32, 116, 97, 112, 101, 32]⟩ : ByteArray)) ++ t114) ++ (⟨#[32, 99, 111, 109, 112, 97, 115, 115, 32]⟩ : ByteArray)) ++ t115) ++ (⟨#[32, 115, 108, 111, 112, 101, 32]⟩ : ByteArray)).size + 1 ≤ 9223372036854775807 then ((spec_l1Num.f k (wrap64 (-a0_4))).bind fun t116 => (if ((((((((((⟨#[108, 101, 103, 32]⟩ : ByteArray) ++ t112) ++ (⟨#[45]⟩ : ByteArray)) ++ t113) ++ (⟨#[32, 116, 97, 112, 101, 32]⟩ : ByteArray)) ++ t114) ++ (⟨#[32, 99, 111, 109, 112, 97, 115, 115, 32]⟩ : ByteArray)) ++ t115) ++ (⟨#[32, 115, 108, 111, 112, 101, 32]⟩ : ByteArray)) ++ (⟨#[45]⟩ : ByteArray)).size + t116.size ≤ 9223372036854775807 then (some (((((((((((⟨#[108, 101, 103, 32]⟩ : ByteArray) ++ t112) ++ (⟨#[45]⟩ : ByteArray)) ++ t113) ++ (⟨#[32, 116, 97, 112, 101, 32]⟩ : ByteArray)) ++ t114) ++ (⟨#[32, 99, 111, 109, 112, 97, 115, 115, 32]⟩ : ByteArray)) ++ t115) ++ (⟨#[32, 115, 108, 111, 112, 101, 32]⟩ : ByteArray)) ++ (⟨#[45]⟩ : ByteArray)) ++ t116)) else (none))) else (none)) else ((spec_l1Num.f k a0_4).bind fun t117 => (if (((((((((⟨#[108, 101, 103, 32]⟩ : ByteArray) ++ t112) ++ (⟨#[45]⟩ : ByteArray)) ++ t113) ++ (⟨#[32, 116, 97, 112, 101, 32]⟩ : ByteArray)) ++ t114) ++ (⟨#[32, 99, 111, 109, 112, 97, 115, 115, 32]⟩ : ByteArray)) ++ t115) ++ (⟨#[32, 115, 108, 111, 112, 101, 32]⟩ : ByteArray)).size + t117.size ≤ 9223372036854775807 then (some ((((((((((⟨#[108, 101, 103, 32]⟩ : ByteArray) ++ t112) ++ (⟨#[45]⟩ : ByteArray)) ++ t113) ++ (⟨#[32, 116, 97, 112, 101, 32]⟩ : ByteArray)) ++ t114) ++ (⟨#[32, 99, 111, 109, 112, 97, 115, 115, 32]⟩ : ByteArray)) ++ t115) ++ (⟨#[32, 115, 108, 111, 112, 101, 32]⟩ : ByteArray)) ++ t117)) else (none)))) else (none)) else (none))) else (none)) else (none))) else (none)) else (none))) else (none)) else (none))) = some r := h
  clear h
  replace H := Option.bind_eq_some_iff.mp H
  obtain ⟨t112, A20, H⟩ := H
  replace H : (if 4 + t112.size ≤ 9223372036854775807 then (if ((⟨#[108, 101, 103, 32]⟩ : ByteArray) ++ t112).size + 1 ≤ 9223372036854775807 then ((spec_l1Num.f k a0_1).bind fun t113 => (if (((⟨#[108, 101, 103, 32]⟩ : ByteArray) ++ t112) ++ (⟨#[45]⟩ : ByteArray)).size + t113.size ≤ 9223372036854775807 then (if ((((⟨#[108, 101, 103, 32]⟩ : ByteArray) ++ t112) ++ (⟨#[45]⟩ : ByteArray)) ++ t113).size + 6 ≤ 9223372036854775807 then ((spec_l1Num.f k a0_2).bind fun t114 => (if (((((⟨#[108, 101, 103, 32]⟩ : ByteArray) ++ t112) ++ (⟨#[45]⟩ : ByteArray)) ++ t113) ++ (⟨#[32, 116, 97, 112, 101, 32]⟩ : ByteArray)).size + t114.size ≤ 9223372036854775807 then (if ((((((⟨#[108, 101, 103, 32]⟩ : ByteArray) ++ t112) ++ (⟨#[45]⟩ : ByteArray)) ++ t113) ++ (⟨#[32, 116, 97, 112, 101, 32]⟩ : ByteArray)) ++ t114).size + 9 ≤ 9223372036854775807 then ((spec_l1Num.f k a0_3).bind fun t115 => (if (((((((⟨#[108, 101, 103, 32]⟩ : ByteArray) ++ t112) ++ (⟨#[45]⟩ : ByteArray)) ++ t113) ++ (⟨#[32, 116, 97, 112, 101, 32]⟩ : ByteArray)) ++ t114) ++ (⟨#[32, 99, 111, 109, 112, 97, 115, 115, 32]⟩ : ByteArray)).size + t115.size ≤ 9223372036854775807 then (if ((((((((⟨#[108, 101, 103, 32]⟩ : ByteArray) ++ t112) ++ (⟨#[45]⟩ : ByteArray)) ++ t113) ++ (⟨#[32, 116, 97, 112, 101, 32]⟩ : ByteArray)) ++ t114) ++ (⟨#[32, 99, 111, 109, 112, 97, 115, 115, 32]⟩ : ByteArray)) ++ t115).size + 7 ≤ 9223372036854775807 then (if a0_4 < 0 then (if (((((((((⟨#[108, 101, 103, 32]⟩ : ByteArray) ++ t112) ++ (⟨#[45]⟩ : ByteArray)) ++ t113) ++ (⟨#[32, 116, 97, 112, 101, 32]⟩ : ByteArray)) ++ t114) ++ (⟨#[32, 99, 111, 109, 112, 97, 115, 115, 32]⟩ : ByteArray)) ++ t115) ++ (⟨#[32, 115, 108, 111, 112, 101, 32]⟩ : ByteArray)).size + 1 ≤ 9223372036854775807 then ((spec_l1Num.f k (wrap64 (-a0_4))).bind fun t116 => (if ((((((((((⟨#[108, 101, 103, 32]⟩ : ByteArray) ++ t112) ++ (⟨#[45]⟩ : ByteArray)) ++ t113) ++ (⟨#[32, 116, 97, 112, 101, 32]⟩ : ByteArray)) ++ t114) ++ (⟨#[32, 99, 111, 109, 112, 97, 115, 115, 32]⟩ : ByteArray)) ++ t115) ++ (⟨#[32, 115, 108, 111, 112, 101, 32]⟩ : ByteArray)) ++ (⟨#[45]⟩ : ByteArray)).size + t116.size ≤ 9223372036854775807 then (some (((((((((((⟨#[108, 101, 103, 32]⟩ : ByteArray) ++ t112) ++ (⟨#[45]⟩ : ByteArray)) ++ t113) ++ (⟨#[32, 116, 97, 112, 101, 32]⟩ : ByteArray)) ++ t114) ++ (⟨#[32, 99, 111, 109, 112, 97, 115, 115, 32]⟩ : ByteArray)) ++ t115) ++ (⟨#[32, 115, 108, 111, 112, 101, 32]⟩ : ByteArray)) ++ (⟨#[45]⟩ : ByteArray)) ++ t116)) else (none))) else (none)) else ((spec_l1Num.f k a0_4).bind fun t117 => (if (((((((((⟨#[108, 101, 103, 32]⟩ : ByteArray) ++ t112) ++ (⟨#[45]⟩ : ByteArray)) ++ t113) ++ (⟨#[32, 116, 97, 112, 101, 32]⟩ : ByteArray)) ++ t114) ++ (⟨#[32, 99, 111, 109, 112, 97, 115, 115, 32]⟩ : ByteArray)) ++ t115) ++ (⟨#[32, 115, 108, 111, 112, 101, 32]⟩ : ByteArray)).size + t117.size ≤ 9223372036854775807 then (some ((((((((((⟨#[108, 101, 103, 32]⟩ : ByteArray) ++ t112) ++ (⟨#[45]⟩ : ByteArray)) ++ t113) ++ (⟨#[32, 116, 97, 112, 101, 32]⟩ : ByteArray)) ++ t114) ++ (⟨#[32, 99, 111, 109, 112, 97, 115, 115, 32]⟩ : ByteArray)) ++ t115) ++ (⟨#[32, 115, 108, 111, 112, 101, 32]⟩ : ByteArray)) ++ t117)) else (none)))) else (none)) else (none))) else (none)) else (none))) else (none)) else (none))) else (none)) else (none)) = some r := H
  have A2 := Aside0.mk A20
  clear A20
  by_cases c3 : 4 + t112.size ≤ 9223372036854775807
  · rw [if_pos c3] at H
    have c3b0 := eq_true c3
    have c3b1 : decide (4 + t112.size ≤ 9223372036854775807) = true := decide_eq_true c3
    try have c3b2 : (9223372036854775807 < 4 + t112.size) = False := eq_false (Nat.not_lt.2 c3)
    by_cases c4 : ((⟨#[108, 101, 103, 32]⟩ : ByteArray) ++ t112).size + 1 ≤ 9223372036854775807
    · rw [if_pos c4] at H
      have c4b0 := eq_true c4
      have c4b1 : decide (((⟨#[108, 101, 103, 32]⟩ : ByteArray) ++ t112).size + 1 ≤ 9223372036854775807) = true := decide_eq_true c4
      try have c4b2 : (9223372036854775807 < ((⟨#[108, 101, 103, 32]⟩ : ByteArray) ++ t112).size + 1) = False := eq_false (Nat.not_lt.2 c4)
      (try have c4b6 : (9223372036854775807 < 4 + t112.size + 1) = False := eq_false (by have h_ := c4; have hz0_ : (⟨#[108, 101, 103, 32]⟩ : ByteArray).size = 4 := rfl; simp only [ByteArray.size_append, hz0_] at h_; omega))
      replace H := Option.bind_eq_some_iff.mp H
      obtain ⟨t113, A50, H⟩ := H
      replace H : (if (((⟨#[108, 101, 103, 32]⟩ : ByteArray) ++ t112) ++ (⟨#[45]⟩ : ByteArray)).size + t113.size ≤ 9223372036854775807 then (if ((((⟨#[108, 101, 103, 32]⟩ : ByteArray) ++ t112) ++ (⟨#[45]⟩ : ByteArray)) ++ t113).size + 6 ≤ 9223372036854775807 then ((spec_l1Num.f k a0_2).bind fun t114 => (if (((((⟨#[108, 101, 103, 32]⟩ : ByteArray) ++ t112) ++ (⟨#[45]⟩ : ByteArray)) ++ t113) ++ (⟨#[32, 116, 97, 112, 101, 32]⟩ : ByteArray)).size + t114.size ≤ 9223372036854775807 then (if ((((((⟨#[108, 101, 103, 32]⟩ : ByteArray) ++ t112) ++ (⟨#[45]⟩ : ByteArray)) ++ t113) ++ (⟨#[32, 116, 97, 112, 101, 32]⟩ : ByteArray)) ++ t114).size + 9 ≤ 9223372036854775807 then ((spec_l1Num.f k a0_3).bind fun t115 => (if (((((((⟨#[108, 101, 103, 32]⟩ : ByteArray) ++ t112) ++ (⟨#[45]⟩ : ByteArray)) ++ t113) ++ (⟨#[32, 116, 97, 112, 101, 32]⟩ : ByteArray)) ++ t114) ++ (⟨#[32, 99, 111, 109, 112, 97, 115, 115, 32]⟩ : ByteArray)).size + t115.size ≤ 9223372036854775807 then (if ((((((((⟨#[108, 101, 103, 32]⟩ : ByteArray) ++ t112) ++ (⟨#[45]⟩ : ByteArray)) ++ t113) ++ (⟨#[32, 116, 97, 112, 101, 32]⟩ : ByteArray)) ++ t114) ++ (⟨#[32, 99, 111, 109, 112, 97, 115, 115, 32]⟩ : ByteArray)) ++ t115).size + 7 ≤ 9223372036854775807 then (if a0_4 < 0 then (if (((((((((⟨#[108, 101, 103, 32]⟩ : ByteArray) ++ t112) ++ (⟨#[45]⟩ : ByteArray)) ++ t113) ++ (⟨#[32, 116, 97, 112, 101, 32]⟩ : ByteArray)) ++ t114) ++ (⟨#[32, 99, 111, 109, 112, 97, 115, 115, 32]⟩ : ByteArray)) ++ t115) ++ (⟨#[32, 115, 108, 111, 112, 101, 32]⟩ : ByteArray)).size + 1 ≤ 9223372036854775807 then ((spec_l1Num.f k (wrap64 (-a0_4))).bind fun t116 => (if ((((((((((⟨#[108, 101, 103, 32]⟩ : ByteArray) ++ t112) ++ (⟨#[45]⟩ : ByteArray)) ++ t113) ++ (⟨#[32, 116, 97, 112, 101, 32]⟩ : ByteArray)) ++ t114) ++ (⟨#[32, 99, 111, 109, 112, 97, 115, 115, 32]⟩ : ByteArray)) ++ t115) ++ (⟨#[32, 115, 108, 111, 112, 101, 32]⟩ : ByteArray)) ++ (⟨#[45]⟩ : ByteArray)).size + t116.size ≤ 9223372036854775807 then (some (((((((((((⟨#[108, 101, 103, 32]⟩ : ByteArray) ++ t112) ++ (⟨#[45]⟩ : ByteArray)) ++ t113) ++ (⟨#[32, 116, 97, 112, 101, 32]⟩ : ByteArray)) ++ t114) ++ (⟨#[32, 99, 111, 109, 112, 97, 115, 115, 32]⟩ : ByteArray)) ++ t115) ++ (⟨#[32, 115, 108, 111, 112, 101, 32]⟩ : ByteArray)) ++ (⟨#[45]⟩ : ByteArray)) ++ t116)) else (none))) else (none)) else ((spec_l1Num.f k a0_4).bind fun t117 => (if (((((((((⟨#[108, 101, 103, 32]⟩ : ByteArray) ++ t112) ++ (⟨#[45]⟩ : ByteArray)) ++ t113) ++ (⟨#[32, 116, 97, 112, 101, 32]⟩ : ByteArray)) ++ t114) ++ (⟨#[32, 99, 111, 109, 112, 97, 115, 115, 32]⟩ : ByteArray)) ++ t115) ++ (⟨#[32, 115, 108, 111, 112, 101, 32]⟩ : ByteArray)).size + t117.size ≤ 9223372036854775807 then (some ((((((((((⟨#[108, 101, 103, 32]⟩ : ByteArray) ++ t112) ++ (⟨#[45]⟩ : ByteArray)) ++ t113) ++ (⟨#[32, 116, 97, 112, 101, 32]⟩ : ByteArray)) ++ t114) ++ (⟨#[32, 99, 111, 109, 112, 97, 115, 115, 32]⟩ : ByteArray)) ++ t115) ++ (⟨#[32, 115, 108, 111, 112, 101, 32]⟩ : ByteArray)) ++ t117)) else (none)))) else (none)) else (none))) else (none)) else (none))) else (none)) else (none)) = some r := H
      have A5 := Aside0.mk A50
      clear A50
      by_cases c6 : (((⟨#[108, 101, 103, 32]⟩ : ByteArray) ++ t112) ++ (⟨#[45]⟩ : ByteArray)).size + t113.size ≤ 9223372036854775807
      · rw [if_pos c6] at H
        have c6b0 := eq_true c6
        have c6b1 : decide ((((⟨#[108, 101, 103, 32]⟩ : ByteArray) ++ t112) ++ (⟨#[45]⟩ : ByteArray)).size + t113.size ≤ 9223372036854775807) = true := decide_eq_true c6
        try have c6b2 : (9223372036854775807 < (((⟨#[108, 101, 103, 32]⟩ : ByteArray) ++ t112) ++ (⟨#[45]⟩ : ByteArray)).size + t113.size) = False := eq_false (Nat.not_lt.2 c6)
        (try have c6b6 : (9223372036854775807 < 4 + t112.size + 1 + t113.size) = False := eq_false (by have h_ := c6; have hz0_ : (⟨#[108, 101, 103, 32]⟩ : ByteArray).size = 4 := rfl; have hz1_ : (⟨#[45]⟩ : ByteArray).size = 1 := rfl; simp only [ByteArray.size_append, hz0_, hz1_] at h_; omega))
        by_cases c7 : ((((⟨#[108, 101, 103, 32]⟩ : ByteArray) ++ t112) ++ (⟨#[45]⟩ : ByteArray)) ++ t113).size + 6 ≤ 9223372036854775807
        · rw [if_pos c7] at H
          have c7b0 := eq_true c7
          have c7b1 : decide (((((⟨#[108, 101, 103, 32]⟩ : ByteArray) ++ t112) ++ (⟨#[45]⟩ : ByteArray)) ++ t113).size + 6 ≤ 9223372036854775807) = true := decide_eq_true c7
          try have c7b2 : (9223372036854775807 < ((((⟨#[108, 101, 103, 32]⟩ : ByteArray) ++ t112) ++ (⟨#[45]⟩ : ByteArray)) ++ t113).size + 6) = False := eq_false (Nat.not_lt.2 c7)
          (try have c7b6 : (9223372036854775807 < 4 + t112.size + 1 + t113.size + 6) = False := eq_false (by have h_ := c7; have hz0_ : (⟨#[108, 101, 103, 32]⟩ : ByteArray).size = 4 := rfl; have hz1_ : (⟨#[45]⟩ : ByteArray).size = 1 := rfl; simp only [ByteArray.size_append, hz0_, hz1_] at h_; omega))
          replace H := Option.bind_eq_some_iff.mp H
          obtain ⟨t114, A80, H⟩ := H
          replace H : (if (((((⟨#[108, 101, 103, 32]⟩ : ByteArray) ++ t112) ++ (⟨#[45]⟩ : ByteArray)) ++ t113) ++ (⟨#[32, 116, 97, 112, 101, 32]⟩ : ByteArray)).size + t114.size ≤ 9223372036854775807 then (if ((((((⟨#[108, 101, 103, 32]⟩ : ByteArray) ++ t112) ++ (⟨#[45]⟩ : ByteArray)) ++ t113) ++ (⟨#[32, 116, 97, 112, 101, 32]⟩ : ByteArray)) ++ t114).size + 9 ≤ 9223372036854775807 then ((spec_l1Num.f k a0_3).bind fun t115 => (if (((((((⟨#[108, 101, 103, 32]⟩ : ByteArray) ++ t112) ++ (⟨#[45]⟩ : ByteArray)) ++ t113) ++ (⟨#[32, 116, 97, 112, 101, 32]⟩ : ByteArray)) ++ t114) ++ (⟨#[32, 99, 111, 109, 112, 97, 115, 115, 32]⟩ : ByteArray)).size + t115.size ≤ 9223372036854775807 then (if ((((((((⟨#[108, 101, 103, 32]⟩ : ByteArray) ++ t112) ++ (⟨#[45]⟩ : ByteArray)) ++ t113) ++ (⟨#[32, 116, 97, 112, 101, 32]⟩ : ByteArray)) ++ t114) ++ (⟨#[32, 99, 111, 109, 112, 97, 115, 115, 32]⟩ : ByteArray)) ++ t115).size + 7 ≤ 9223372036854775807 then (if a0_4 < 0 then (if (((((((((⟨#[108, 101, 103, 32]⟩ : ByteArray) ++ t112) ++ (⟨#[45]⟩ : ByteArray)) ++ t113) ++ (⟨#[32, 116, 97, 112, 101, 32]⟩ : ByteArray)) ++ t114) ++ (⟨#[32, 99, 111, 109, 112, 97, 115, 115, 32]⟩ : ByteArray)) ++ t115) ++ (⟨#[32, 115, 108, 111, 112, 101, 32]⟩ : ByteArray)).size + 1 ≤ 9223372036854775807 then ((spec_l1Num.f k (wrap64 (-a0_4))).bind fun t116 => (if ((((((((((⟨#[108, 101, 103, 32]⟩ : ByteArray) ++ t112) ++ (⟨#[45]⟩ : ByteArray)) ++ t113) ++ (⟨#[32, 116, 97, 112, 101, 32]⟩ : ByteArray)) ++ t114) ++ (⟨#[32, 99, 111, 109, 112, 97, 115, 115, 32]⟩ : ByteArray)) ++ t115) ++ (⟨#[32, 115, 108, 111, 112, 101, 32]⟩ : ByteArray)) ++ (⟨#[45]⟩ : ByteArray)).size + t116.size ≤ 9223372036854775807 then (some (((((((((((⟨#[108, 101, 103, 32]⟩ : ByteArray) ++ t112) ++ (⟨#[45]⟩ : ByteArray)) ++ t113) ++ (⟨#[32, 116, 97, 112, 101, 32]⟩ : ByteArray)) ++ t114) ++ (⟨#[32, 99, 111, 109, 112, 97, 115, 115, 32]⟩ : ByteArray)) ++ t115) ++ (⟨#[32, 115, 108, 111, 112, 101, 32]⟩ : ByteArray)) ++ (⟨#[45]⟩ : ByteArray)) ++ t116)) else (none))) else (none)) else ((spec_l1Num.f k a0_4).bind fun t117 => (if (((((((((⟨#[108, 101, 103, 32]⟩ : ByteArray) ++ t112) ++ (⟨#[45]⟩ : ByteArray)) ++ t113) ++ (⟨#[32, 116, 97, 112, 101, 32]⟩ : ByteArray)) ++ t114) ++ (⟨#[32, 99, 111, 109, 112, 97, 115, 115, 32]⟩ : ByteArray)) ++ t115) ++ (⟨#[32, 115, 108, 111, 112, 101, 32]⟩ : ByteArray)).size + t117.size ≤ 9223372036854775807 then (some ((((((((((⟨#[108, 101, 103, 32]⟩ : ByteArray) ++ t112) ++ (⟨#[45]⟩ : ByteArray)) ++ t113) ++ (⟨#[32, 116, 97, 112, 101, 32]⟩ : ByteArray)) ++ t114) ++ (⟨#[32, 99, 111, 109, 112, 97, 115, 115, 32]⟩ : ByteArray)) ++ t115) ++ (⟨#[32, 115, 108, 111, 112, 101, 32]⟩ : ByteArray)) ++ t117)) else (none)))) else (none)) else (none))) else (none)) else (none)) = some r := H
          have A8 := Aside0.mk A80
          clear A80
          by_cases c9 : (((((⟨#[108, 101, 103, 32]⟩ : ByteArray) ++ t112) ++ (⟨#[45]⟩ : ByteArray)) ++ t113) ++ (⟨#[32, 116, 97, 112, 101, 32]⟩ : ByteArray)).size + t114.size ≤ 9223372036854775807
          · rw [if_pos c9] at H
            have c9b0 := eq_true c9
            have c9b1 : decide ((((((⟨#[108, 101, 103, 32]⟩ : ByteArray) ++ t112) ++ (⟨#[45]⟩ : ByteArray)) ++ t113) ++ (⟨#[32, 116, 97, 112, 101, 32]⟩ : ByteArray)).size + t114.size ≤ 9223372036854775807) = true := decide_eq_true c9
            try have c9b2 : (9223372036854775807 < (((((⟨#[108, 101, 103, 32]⟩ : ByteArray) ++ t112) ++ (⟨#[45]⟩ : ByteArray)) ++ t113) ++ (⟨#[32, 116, 97, 112, 101, 32]⟩ : ByteArray)).size + t114.size) = False := eq_false (Nat.not_lt.2 c9)
            (try have c9b6 : (9223372036854775807 < 4 + t112.size + 1 + t113.size + 6 + t114.size) = False := eq_false (by have h_ := c9; have hz0_ : (⟨#[108, 101, 103, 32]⟩ : ByteArray).size = 4 := rfl; have hz1_ : (⟨#[45]⟩ : ByteArray).size = 1 := rfl; have hz2_ : (⟨#[32, 116, 97, 112, 101, 32]⟩ : ByteArray).size = 6 := rfl; simp only [ByteArray.size_append, hz0_, hz1_, hz2_] at h_; omega))
            by_cases c10 : ((((((⟨#[108, 101, 103, 32]⟩ : ByteArray) ++ t112) ++ (⟨#[45]⟩ : ByteArray)) ++ t113) ++ (⟨#[32, 116, 97, 112, 101, 32]⟩ : ByteArray)) ++ t114).size + 9 ≤ 9223372036854775807
            · rw [if_pos c10] at H
              have c10b0 := eq_true c10
              have c10b1 : decide (((((((⟨#[108, 101, 103, 32]⟩ : ByteArray) ++ t112) ++ (⟨#[45]⟩ : ByteArray)) ++ t113) ++ (⟨#[32, 116, 97, 112, 101, 32]⟩ : ByteArray)) ++ t114).size + 9 ≤ 9223372036854775807) = true := decide_eq_true c10
              try have c10b2 : (9223372036854775807 < ((((((⟨#[108, 101, 103, 32]⟩ : ByteArray) ++ t112) ++ (⟨#[45]⟩ : ByteArray)) ++ t113) ++ (⟨#[32, 116, 97, 112, 101, 32]⟩ : ByteArray)) ++ t114).size + 9) = False := eq_false (Nat.not_lt.2 c10)
              (try have c10b6 : (9223372036854775807 < 4 + t112.size + 1 + t113.size + 6 + t114.size + 9) = False := eq_false (by have h_ := c10; have hz0_ : (⟨#[108, 101, 103, 32]⟩ : ByteArray).size = 4 := rfl; have hz1_ : (⟨#[45]⟩ : ByteArray).size = 1 := rfl; have hz2_ : (⟨#[32, 116, 97, 112, 101, 32]⟩ : ByteArray).size = 6 := rfl; simp only [ByteArray.size_append, hz0_, hz1_, hz2_] at h_; omega))
              replace H := Option.bind_eq_some_iff.mp H
              obtain ⟨t115, A110, H⟩ := H
              replace H : (if (((((((⟨#[108, 101, 103, 32]⟩ : ByteArray) ++ t112) ++ (⟨#[45]⟩ : ByteArray)) ++ t113) ++ (⟨#[32, 116, 97, 112, 101, 32]⟩ : ByteArray)) ++ t114) ++ (⟨#[32, 99, 111, 109, 112, 97, 115, 115, 32]⟩ : ByteArray)).size + t115.size ≤ 9223372036854775807 then (if ((((((((⟨#[108, 101, 103, 32]⟩ : ByteArray) ++ t112) ++ (⟨#[45]⟩ : ByteArray)) ++ t113) ++ (⟨#[32, 116, 97, 112, 101, 32]⟩ : ByteArray)) ++ t114) ++ (⟨#[32, 99, 111, 109, 112, 97, 115, 115, 32]⟩ : ByteArray)) ++ t115).size + 7 ≤ 9223372036854775807 then (if a0_4 < 0 then (if (((((((((⟨#[108, 101, 103, 32]⟩ : ByteArray) ++ t112) ++ (⟨#[45]⟩ : ByteArray)) ++ t113) ++ (⟨#[32, 116, 97, 112, 101, 32]⟩ : ByteArray)) ++ t114) ++ (⟨#[32, 99, 111, 109, 112, 97, 115, 115, 32]⟩ : ByteArray)) ++ t115) ++ (⟨#[32, 115, 108, 111, 112, 101, 32]⟩ : ByteArray)).size + 1 ≤ 9223372036854775807 then ((spec_l1Num.f k (wrap64 (-a0_4))).bind fun t116 => (if ((((((((((⟨#[108, 101, 103, 32]⟩ : ByteArray) ++ t112) ++ (⟨#[45]⟩ : ByteArray)) ++ t113) ++ (⟨#[32, 116, 97, 112, 101, 32]⟩ : ByteArray)) ++ t114) ++ (⟨#[32, 99, 111, 109, 112, 97, 115, 115, 32]⟩ : ByteArray)) ++ t115) ++ (⟨#[32, 115, 108, 111, 112, 101, 32]⟩ : ByteArray)) ++ (⟨#[45]⟩ : ByteArray)).size + t116.size ≤ 9223372036854775807 then (some (((((((((((⟨#[108, 101, 103, 32]⟩ : ByteArray) ++ t112) ++ (⟨#[45]⟩ : ByteArray)) ++ t113) ++ (⟨#[32, 116, 97, 112, 101, 32]⟩ : ByteArray)) ++ t114) ++ (⟨#[32, 99, 111, 109, 112, 97, 115, 115, 32]⟩ : ByteArray)) ++ t115) ++ (⟨#[32, 115, 108, 111, 112, 101, 32]⟩ : ByteArray)) ++ (⟨#[45]⟩ : ByteArray)) ++ t116)) else (none))) else (none)) else ((spec_l1Num.f k a0_4).bind fun t117 => (if (((((((((⟨#[108, 101, 103, 32]⟩ : ByteArray) ++ t112) ++ (⟨#[45]⟩ : ByteArray)) ++ t113) ++ (⟨#[32, 116, 97, 112, 101, 32]⟩ : ByteArray)) ++ t114) ++ (⟨#[32, 99, 111, 109, 112, 97, 115, 115, 32]⟩ : ByteArray)) ++ t115) ++ (⟨#[32, 115, 108, 111, 112, 101, 32]⟩ : ByteArray)).size + t117.size ≤ 9223372036854775807 then (some ((((((((((⟨#[108, 101, 103, 32]⟩ : ByteArray) ++ t112) ++ (⟨#[45]⟩ : ByteArray)) ++ t113) ++ (⟨#[32, 116, 97, 112, 101, 32]⟩ : ByteArray)) ++ t114) ++ (⟨#[32, 99, 111, 109, 112, 97, 115, 115, 32]⟩ : ByteArray)) ++ t115) ++ (⟨#[32, 115, 108, 111, 112, 101, 32]⟩ : ByteArray)) ++ t117)) else (none)))) else (none)) else (none)) = some r := H
              have A11 := Aside0.mk A110
              clear A110
              by_cases c12 : (((((((⟨#[108, 101, 103, 32]⟩ : ByteArray) ++ t112) ++ (⟨#[45]⟩ : ByteArray)) ++ t113) ++ (⟨#[32, 116, 97, 112, 101, 32]⟩ : ByteArray)) ++ t114) ++ (⟨#[32, 99, 111, 109, 112, 97, 115, 115, 32]⟩ : ByteArray)).size + t115.size ≤ 9223372036854775807
              · rw [if_pos c12] at H
                have c12b0 := eq_true c12
                have c12b1 : decide ((((((((⟨#[108, 101, 103, 32]⟩ : ByteArray) ++ t112) ++ (⟨#[45]⟩ : ByteArray)) ++ t113) ++ (⟨#[32, 116, 97, 112, 101, 32]⟩ : ByteArray)) ++ t114) ++ (⟨#[32, 99, 111, 109, 112, 97, 115, 115, 32]⟩ : ByteArray)).size + t115.size ≤ 9223372036854775807) = true := decide_eq_true c12
                try have c12b2 : (9223372036854775807 < (((((((⟨#[108, 101, 103, 32]⟩ : ByteArray) ++ t112) ++ (⟨#[45]⟩ : ByteArray)) ++ t113) ++ (⟨#[32, 116, 97, 112, 101, 32]⟩ : ByteArray)) ++ t114) ++ (⟨#[32, 99, 111, 109, 112, 97, 115, 115, 32]⟩ : ByteArray)).size + t115.size) = False := eq_false (Nat.not_lt.2 c12)
                (try have c12b6 : (9223372036854775807 < 4 + t112.size + 1 + t113.size + 6 + t114.size + 9 + t115.size) = False := eq_false (by have h_ := c12; have hz0_ : (⟨#[108, 101, 103, 32]⟩ : ByteArray).size = 4 := rfl; have hz1_ : (⟨#[45]⟩ : ByteArray).size = 1 := rfl; have hz2_ : (⟨#[32, 116, 97, 112, 101, 32]⟩ : ByteArray).size = 6 := rfl; have hz3_ : (⟨#[32, 99, 111, 109, 112, 97, 115, 115, 32]⟩ : ByteArray).size = 9 := rfl; simp only [ByteArray.size_append, hz0_, hz1_, hz2_, hz3_] at h_; omega))
                by_cases c13 : ((((((((⟨#[108, 101, 103, 32]⟩ : ByteArray) ++ t112) ++ (⟨#[45]⟩ : ByteArray)) ++ t113) ++ (⟨#[32, 116, 97, 112, 101, 32]⟩ : ByteArray)) ++ t114) ++ (⟨#[32, 99, 111, 109, 112, 97, 115, 115, 32]⟩ : ByteArray)) ++ t115).size + 7 ≤ 9223372036854775807
                · rw [if_pos c13] at H
                  have c13b0 := eq_true c13
                  have c13b1 : decide (((((((((⟨#[108, 101, 103, 32]⟩ : ByteArray) ++ t112) ++ (⟨#[45]⟩ : ByteArray)) ++ t113) ++ (⟨#[32, 116, 97, 112, 101, 32]⟩ : ByteArray)) ++ t114) ++ (⟨#[32, 99, 111, 109, 112, 97, 115, 115, 32]⟩ : ByteArray)) ++ t115).size + 7 ≤ 9223372036854775807) = true := decide_eq_true c13
                  try have c13b2 : (9223372036854775807 < ((((((((⟨#[108, 101, 103, 32]⟩ : ByteArray) ++ t112) ++ (⟨#[45]⟩ : ByteArray)) ++ t113) ++ (⟨#[32, 116, 97, 112, 101, 32]⟩ : ByteArray)) ++ t114) ++ (⟨#[32, 99, 111, 109, 112, 97, 115, 115, 32]⟩ : ByteArray)) ++ t115).size + 7) = False := eq_false (Nat.not_lt.2 c13)
                  (try have c13b6 : (9223372036854775807 < 4 + t112.size + 1 + t113.size + 6 + t114.size + 9 + t115.size + 7) = False := eq_false (by have h_ := c13; have hz0_ : (⟨#[108, 101, 103, 32]⟩ : ByteArray).size = 4 := rfl; have hz1_ : (⟨#[45]⟩ : ByteArray).size = 1 := rfl; have hz2_ : (⟨#[32, 116, 97, 112, 101, 32]⟩ : ByteArray).size = 6 := rfl; have hz3_ : (⟨#[32, 99, 111, 109, 112, 97, 115, 115, 32]⟩ : ByteArray).size = 9 := rfl; simp only [ByteArray.size_append, hz0_, hz1_, hz2_, hz3_] at h_; omega))
                  by_cases c14 : a0_4 < 0
                  · rw [if_pos c14] at H
                    have c14b0 : decide (a0_4 < 0) = true := decide_eq_true c14
                    clear c14
                    by_cases c15 : (((((((((⟨#[108, 101, 103, 32]⟩ : ByteArray) ++ t112) ++ (⟨#[45]⟩ : ByteArray)) ++ t113) ++ (⟨#[32, 116, 97, 112, 101, 32]⟩ : ByteArray)) ++ t114) ++ (⟨#[32, 99, 111, 109, 112, 97, 115, 115, 32]⟩ : ByteArray)) ++ t115) ++ (⟨#[32, 115, 108, 111, 112, 101, 32]⟩ : ByteArray)).size + 1 ≤ 9223372036854775807
                    · rw [if_pos c15] at H
                      have c15b0 := eq_true c15
                      have c15b1 : decide ((((((((((⟨#[108, 101, 103, 32]⟩ : ByteArray) ++ t112) ++ (⟨#[45]⟩ : ByteArray)) ++ t113) ++ (⟨#[32, 116, 97, 112, 101, 32]⟩ : ByteArray)) ++ t114) ++ (⟨#[32, 99, 111, 109, 112, 97, 115, 115, 32]⟩ : ByteArray)) ++ t115) ++ (⟨#[32, 115, 108, 111, 112, 101, 32]⟩ : ByteArray)).size + 1 ≤ 9223372036854775807) = true := decide_eq_true c15
                      try have c15b2 : (9223372036854775807 < (((((((((⟨#[108, 101, 103, 32]⟩ : ByteArray) ++ t112) ++ (⟨#[45]⟩ : ByteArray)) ++ t113) ++ (⟨#[32, 116, 97, 112, 101, 32]⟩ : ByteArray)) ++ t114) ++ (⟨#[32, 99, 111, 109, 112, 97, 115, 115, 32]⟩ : ByteArray)) ++ t115) ++ (⟨#[32, 115, 108, 111, 112, 101, 32]⟩ : ByteArray)).size + 1) = False := eq_false (Nat.not_lt.2 c15)
                      (try have c15b6 : (9223372036854775807 < 4 + t112.size + 1 + t113.size + 6 + t114.size + 9 + t115.size + 7 + 1) = False := eq_false (by have h_ := c15; have hz0_ : (⟨#[108, 101, 103, 32]⟩ : ByteArray).size = 4 := rfl; have hz1_ : (⟨#[45]⟩ : ByteArray).size = 1 := rfl; have hz2_ : (⟨#[32, 116, 97, 112, 101, 32]⟩ : ByteArray).size = 6 := rfl; have hz3_ : (⟨#[32, 99, 111, 109, 112, 97, 115, 115, 32]⟩ : ByteArray).size = 9 := rfl; have hz4_ : (⟨#[32, 115, 108, 111, 112, 101, 32]⟩ : ByteArray).size = 7 := rfl; simp only [ByteArray.size_append, hz0_, hz1_, hz2_, hz3_, hz4_] at h_; omega))
                      (try have c15b7 : (9223372036854775807 < 4 + t112.size + 1 + t113.size + 6 + t114.size + 9 + t115.size + 8) = False := eq_false (by have h_ := c15; have hz0_ : (⟨#[108, 101, 103, 32]⟩ : ByteArray).size = 4 := rfl; have hz1_ : (⟨#[45]⟩ : ByteArray).size = 1 := rfl; have hz2_ : (⟨#[32, 116, 97, 112, 101, 32]⟩ : ByteArray).size = 6 := rfl; have hz3_ : (⟨#[32, 99, 111, 109, 112, 97, 115, 115, 32]⟩ : ByteArray).size = 9 := rfl; have hz4_ : (⟨#[32, 115, 108, 111, 112, 101, 32]⟩ : ByteArray).size = 7 := rfl; simp only [ByteArray.size_append, hz0_, hz1_, hz2_, hz3_, hz4_] at h_; omega))
                      replace H := Option.bind_eq_some_iff.mp H
                      obtain ⟨t116, A160, H⟩ := H
                      replace H : (if ((((((((((⟨#[108, 101, 103, 32]⟩ : ByteArray) ++ t112) ++ (⟨#[45]⟩ : ByteArray)) ++ t113) ++ (⟨#[32, 116, 97, 112, 101, 32]⟩ : ByteArray)) ++ t114) ++ (⟨#[32, 99, 111, 109, 112, 97, 115, 115, 32]⟩ : ByteArray)) ++ t115) ++ (⟨#[32, 115, 108, 111, 112, 101, 32]⟩ : ByteArray)) ++ (⟨#[45]⟩ : ByteArray)).size + t116.size ≤ 9223372036854775807 then (some (((((((((((⟨#[108, 101, 103, 32]⟩ : ByteArray) ++ t112) ++ (⟨#[45]⟩ : ByteArray)) ++ t113) ++ (⟨#[32, 116, 97, 112, 101, 32]⟩ : ByteArray)) ++ t114) ++ (⟨#[32, 99, 111, 109, 112, 97, 115, 115, 32]⟩ : ByteArray)) ++ t115) ++ (⟨#[32, 115, 108, 111, 112, 101, 32]⟩ : ByteArray)) ++ (⟨#[45]⟩ : ByteArray)) ++ t116)) else (none)) = some r := H
                      have A16 := Aside0.mk A160
                      clear A160
                      by_cases c17 : ((((((((((⟨#[108, 101, 103, 32]⟩ : ByteArray) ++ t112) ++ (⟨#[45]⟩ : ByteArray)) ++ t113) ++ (⟨#[32, 116, 97, 112, 101, 32]⟩ : ByteArray)) ++ t114) ++ (⟨#[32, 99, 111, 109, 112, 97, 115, 115, 32]⟩ : ByteArray)) ++ t115) ++ (⟨#[32, 115, 108, 111, 112, 101, 32]⟩ : ByteArray)) ++ (⟨#[45]⟩ : ByteArray)).size + t116.size ≤ 9223372036854775807
                      · rw [if_pos c17] at H
                        have c17b0 := eq_true c17
                        have c17b1 : decide (((((((((((⟨#[108, 101, 103, 32]⟩ : ByteArray) ++ t112) ++ (⟨#[45]⟩ : ByteArray)) ++ t113) ++ (⟨#[32, 116, 97, 112, 101, 32]⟩ : ByteArray)) ++ t114) ++ (⟨#[32, 99, 111, 109, 112, 97, 115, 115, 32]⟩ : ByteArray)) ++ t115) ++ (⟨#[32, 115, 108, 111, 112, 101, 32]⟩ : ByteArray)) ++ (⟨#[45]⟩ : ByteArray)).size + t116.size ≤ 9223372036854775807) = true := decide_eq_true c17
                        try have c17b2 : (9223372036854775807 < ((((((((((⟨#[108, 101, 103, 32]⟩ : ByteArray) ++ t112) ++ (⟨#[45]⟩ : ByteArray)) ++ t113) ++ (⟨#[32, 116, 97, 112, 101, 32]⟩ : ByteArray)) ++ t114) ++ (⟨#[32, 99, 111, 109, 112, 97, 115, 115, 32]⟩ : ByteArray)) ++ t115) ++ (⟨#[32, 115, 108, 111, 112, 101, 32]⟩ : ByteArray)) ++ (⟨#[45]⟩ : ByteArray)).size + t116.size) = False := eq_false (Nat.not_lt.2 c17)
                        (try have c17b6 : (9223372036854775807 < 4 + t112.size + 1 + t113.size + 6 + t114.size + 9 + t115.size + 7 + 1 + t116.size) = False := eq_false (by have h_ := c17; have hz0_ : (⟨#[108, 101, 103, 32]⟩ : ByteArray).size = 4 := rfl; have hz1_ : (⟨#[45]⟩ : ByteArray).size = 1 := rfl; have hz2_ : (⟨#[32, 116, 97, 112, 101, 32]⟩ : ByteArray).size = 6 := rfl; have hz3_ : (⟨#[32, 99, 111, 109, 112, 97, 115, 115, 32]⟩ : ByteArray).size = 9 := rfl; have hz4_ : (⟨#[32, 115, 108, 111, 112, 101, 32]⟩ : ByteArray).size = 7 := rfl; simp only [ByteArray.size_append, hz0_, hz1_, hz2_, hz3_, hz4_] at h_; omega))
                        (try have c17b7 : (9223372036854775807 < 4 + t112.size + 1 + t113.size + 6 + t114.size + 9 + t115.size + 8 + t116.size) = False := eq_false (by have h_ := c17; have hz0_ : (⟨#[108, 101, 103, 32]⟩ : ByteArray).size = 4 := rfl; have hz1_ : (⟨#[45]⟩ : ByteArray).size = 1 := rfl; have hz2_ : (⟨#[32, 116, 97, 112, 101, 32]⟩ : ByteArray).size = 6 := rfl; have hz3_ : (⟨#[32, 99, 111, 109, 112, 97, 115, 115, 32]⟩ : ByteArray).size = 9 := rfl; have hz4_ : (⟨#[32, 115, 108, 111, 112, 101, 32]⟩ : ByteArray).size = 7 := rfl; simp only [ByteArray.size_append, hz0_, hz1_, hz2_, hz3_, hz4_] at h_; omega))
                        obtain rfl := Option.some.inj H
                        go_enter Tryd.func34, Tryd.ntmps34
                        try go_wp2_with (first | ((with_reducible refine gate_dst (N := 1) rfl ?_); refine box_event ?hg (N := 1) ?hd (cs := #[.int .i64 a0_0, .int .i64 a0_1, .int .i64 a0_2, .int .i64 a0_3, .int .i64 a0_4]) (t := 28) ?hr ?_; (case hd => rfl); (case hg => rfl); (case hr => first | (go_simp; done) | (go_simp; rfl)); intro gb111 hg w18 hbox hb; have n0_ := Aside0.mk (below_step (by repeat (first | (with_reducible first | exact HB.out | apply below_alloc | apply pw_below_drewN | apply below_drew1) | exact HB.out)) hb); have n1_ := Aside0.mk (hbox); have n2_ := Aside0.mk ((by rw [hg]; exact (below_size (by repeat (first | (with_reducible first | exact HB.out | apply below_alloc | apply pw_below_drewN | apply below_drew1) | exact HB.out))) : w.heap.size ≤ gb111)); have n3_ := Aside0.mk ((by rw [hg]; exact (below_size (by repeat (first | (with_reducible first | exact HB.out | apply below_alloc | apply pw_below_drewN | apply below_drew1) | exact HB.out))) : w.heap.size ≤ gb111)); clear HB; have HB := n0_; have BK111 := n1_; have GW111 := n2_; have GE111 := n3_; clear n0_ n1_ n2_ n3_; clear hb hbox hg))
                        have n0_ := Aside0.mk (blk_drew BK111.out)
                        have n1_ := Aside0.mk (below_drew1 HB.out)
                        clear BK111
                        clear HB
                        have BK111 := n0_
                        have HB := n1_
                        clear n0_ n1_
                        refine start_ (n := 21) (S := fun w' => w'.cell? ⟨gb111, 0, none⟩ = some (.int .i64 a0_0) ∧ w'.cell? ⟨gb111, 1, none⟩ = some (.int .i64 a0_1) ∧ w'.cell? ⟨gb111, 2, none⟩ = some (.int .i64 a0_2) ∧ w'.cell? ⟨gb111, 3, none⟩ = some (.int .i64 a0_3) ∧ w'.cell? ⟨gb111, 4, none⟩ = some (.int .i64 a0_4)) (ds := []) #[false, false, false, false, false, false, false, false, false, false, false, false, false, false, false, false, false, false, false, false, false] (by kernel_rfl) rfl rfl ⟨(blk_cell BK111.out 0).trans rfl, (blk_cell BK111.out 1).trans rfl, (blk_cell BK111.out 2).trans rfl, (blk_cell BK111.out 3).trans rfl, (blk_cell BK111.out 4).trans rfl⟩ (fun hHeld => ?_); refine with_tabW spec_l4Text.tab1 spec_l4Text.bits1 (fun HT_ HW_ => ?_)
                        generalize w18.drew = w19 at BK111 HB hHeld ⊢
                        refine pure_ (i := 0) (N := some 4) (v := ?_) (a' := ?_) #[true, false, false, false, false, false, false, false, false, false, false, false, false, false, false, false, false, false, false, false, false] rfl rfl (any_of HT_.out (by kernel_rfl)) (fun _ _ _ h => h) (Or.inl ⟨by rfl, ?_⟩) ?_ ?_
                        rotate_left
                        · intro w'
                          go_simp
                          with_reducible rfl
                        rotate_left
                        · simp only [Act.put, List.setIfInBounds_toArray, List.set_cons_zero, List.set_cons_succ, i64_w, i32_w]
                          rfl
                        refine pure_ (i := 5) (N := some 9) (v := ?_) (a' := ?_) #[true, false, false, false, false, true, false, false, false, false, false, false, false, false, false, false, false, false, false, false, false] rfl rfl (any_of HT_.out (by kernel_rfl)) (fun _ _ _ h => h) (Or.inl ⟨by rfl, ?_⟩) ?_ ?_
                        rotate_left
                        · intro w'
                          go_simp
                          with_reducible rfl
                        rotate_left
                        · simp only [Act.put, List.setIfInBounds_toArray, List.set_cons_zero, List.set_cons_succ, i64_w, i32_w]
                          rfl
                        refine pure_ (i := 10) (N := some 14) (v := ?_) (a' := ?_) #[true, false, false, false, false, true, false, false, false, false, true, false, false, false, false, false, false, false, false, false, false] rfl rfl (any_of HT_.out (by kernel_rfl)) (fun _ _ _ h => h) (Or.inl ⟨by rfl, ?_⟩) ?_ ?_
                        rotate_left
                        · intro w'
                          go_simp
                          with_reducible rfl
                        rotate_left
                        · simp only [Act.put, List.setIfInBounds_toArray, List.set_cons_zero, List.set_cons_succ, i64_w, i32_w]
                          rfl
                        refine pure_ (i := 15) (N := some 19) (v := ?_) (a' := ?_) #[true, false, false, false, false, true, false, false, false, false, true, false, false, false, false, true, false, false, false, false, false] rfl rfl (any_of HT_.out (by kernel_rfl)) (fun _ _ _ h => h) (Or.inl ⟨by rfl, ?_⟩) ?_ ?_
                        rotate_left
                        · intro w'
                          go_simp
                          with_reducible rfl
                        rotate_left
                        · simp only [Act.put, List.setIfInBounds_toArray, List.set_cons_zero, List.set_cons_succ, i64_w, i32_w]
                          rfl
                        refine take_ (i := 1) (N := some 5) (v := ?_) (a' := ?_) #[true, true, false, false, false, true, false, false, false, false, true, false, false, false, false, true, false, false, false, false, false] rfl rfl (take_ofW HT_.out HW_.out (by kernel_rfl)) (fun _ _ _ h => h) (Or.inl ⟨by rfl, ?_⟩) hHeld ?_ ?_
                        rotate_left
                        · rintro w' ⟨s0, s1, s2, s3, s4⟩
                          go_simp
                          with_reducible rfl
                        rotate_left
                        · simp only [Act.put, List.setIfInBounds_toArray, List.set_cons_zero, List.set_cons_succ, i64_w, i32_w]
                          rfl
                        refine take_ (i := 6) (N := some 10) (v := ?_) (a' := ?_) #[true, true, false, false, false, true, true, false, false, false, true, false, false, false, false, true, false, false, false, false, false] rfl rfl (take_ofW HT_.out HW_.out (by kernel_rfl)) (fun _ _ _ h => h) (Or.inl ⟨by rfl, ?_⟩) hHeld ?_ ?_
                        rotate_left
                        · rintro w' ⟨s0, s1, s2, s3, s4⟩
                          go_simp
                          with_reducible rfl
                        rotate_left
                        · simp only [Act.put, List.setIfInBounds_toArray, List.set_cons_zero, List.set_cons_succ, i64_w, i32_w]
                          rfl
                        refine take_ (i := 11) (N := some 15) (v := ?_) (a' := ?_) #[true, true, false, false, false, true, true, false, false, false, true, true, false, false, false, true, false, false, false, false, false] rfl rfl (take_ofW HT_.out HW_.out (by kernel_rfl)) (fun _ _ _ h => h) (Or.inl ⟨by rfl, ?_⟩) hHeld ?_ ?_
                        rotate_left
                        · rintro w' ⟨s0, s1, s2, s3, s4⟩
                          go_simp
                          with_reducible rfl
                        rotate_left
                        · simp only [Act.put, List.setIfInBounds_toArray, List.set_cons_zero, List.set_cons_succ, i64_w, i32_w]
                          rfl
                        refine take_ (i := 16) (N := some 20) (v := ?_) (a' := ?_) #[true, true, false, false, false, true, true, false, false, false, true, true, false, false, false, true, true, false, false, false, false] rfl rfl (take_ofW HT_.out HW_.out (by kernel_rfl)) (fun _ _ _ h => h) (Or.inl ⟨by rfl, ?_⟩) hHeld ?_ ?_
                        rotate_left
                        · rintro w' ⟨s0, s1, s2, s3, s4⟩
                          go_simp
                          with_reducible rfl
                        rotate_left
                        · simp only [Act.put, List.setIfInBounds_toArray, List.set_cons_zero, List.set_cons_succ, i64_w, i32_w]
                          rfl
                        refine one_ (i := 2) (N := some 6) #[true, true, true, false, false, true, true, false, false, false, true, true, false, false, false, true, true, false, false, false, false] rfl rfl (one_of HT_.out (by kernel_rfl)) (by decide) (fun K hK => ?_)
                        refine goes_ Tryd.func30 (by kernel_rfl) rfl #[.int .i64 a0_0] (by rfl) rfl rfl (by (try simp only [List.map_toArray, List.map_cons, List.map_nil]); first | done | rfl | (simp only [List.length_drop, List.length_take]; rfl)) ?_
                        with_reducible refine (spec_l1Num.calls k a0_0 t112 _ A2.out).mono ?_
                        rintro e w20 ⟨rfl, hb⟩
                        refine ⟨_, rfl, ?_⟩
                        have n0_ := Aside0.mk (blk_below (g := gb111) (o := .cells #[.int .i64 a0_0, .int .i64 a0_1, .int .i64 a0_2, .int .i64 a0_3, .int .i64 a0_4] 28 (0, 0)) (by (with_reducible repeat (first | refine blk_drewN ?_ _ | refine blk_drew ?_ | refine blk_alloc ?_ _)); exact BK111.out) hb)
                        have n1_ := Aside0.mk (below_step (by repeat (first | (with_reducible first | exact HB.out | apply below_alloc | apply pw_below_drewN | apply below_drew1 | refine below_set ?_ GE111.out) | exact HB.out)) hb)
                        clear BK111
                        clear HB
                        have BK111 := n0_
                        have HB := n1_
                        clear n0_ n1_
                        (try clear hb)
                        (try clear hb2)
                        (try clear hk)
                        (try clear hi)
                        refine hK.out _ _ ⟨(blk_cell BK111.out 0).trans rfl, (blk_cell BK111.out 1).trans rfl, (blk_cell BK111.out 2).trans rfl, (blk_cell BK111.out 3).trans rfl, (blk_cell BK111.out 4).trans rfl⟩ (fun hHeld => ?_)
                        clear hK K
                        refine norm_ (a' := ?_) ?_ ?_
                        rotate_left
                        · show Act.put _ (some 6) _ = _
                          simp only [Act.put, List.setIfInBounds_toArray, List.set_cons_zero, List.set_cons_succ, i64_w, i32_w]
                          rfl
                        refine pure_ (i := 3) (N := some 7) (v := ?_) (a' := ?_) #[true, true, true, true, false, true, true, false, false, false, true, true, false, false, false, true, true, false, false, false, false] rfl rfl (any_of HT_.out (by kernel_rfl)) (fun _ _ _ h => h) (Or.inl ⟨by rfl, ?_⟩) ?_ ?_
                        rotate_left
                        · intro w'
                          go_simp
                          with_reducible rfl
                        rotate_left
                        · simp only [Act.put, List.setIfInBounds_toArray, List.set_cons_zero, List.set_cons_succ, i64_w, i32_w]
                          rfl
                        refine pure_ (i := 4) (N := some 8) (v := ?_) (a' := ?_) #[true, true, true, true, true, true, true, false, false, false, true, true, false, false, false, true, true, false, false, false, false] rfl rfl (any_of HT_.out (by kernel_rfl)) (fun _ _ _ h => h) (Or.inl ⟨by rfl, ?_⟩) ?_ ?_
                        rotate_left
                        · intro w'
                          go_simp
                          with_reducible rfl
                        rotate_left
                        · simp only [Act.put, List.setIfInBounds_toArray, List.set_cons_zero, List.set_cons_succ, i64_w, i32_w]
                          rfl
                        refine one_ (i := 7) (N := some 11) #[true, true, true, true, true, true, true, true, false, false, true, true, false, false, false, true, true, false, false, false, false] rfl rfl (one_of HT_.out (by kernel_rfl)) (by decide) (fun K hK => ?_)
                        refine goes_ Tryd.func30 (by kernel_rfl) rfl #[.int .i64 a0_1] (by rfl) rfl rfl (by (try simp only [List.map_toArray, List.map_cons, List.map_nil]); first | done | rfl | (simp only [List.length_drop, List.length_take]; rfl)) ?_
                        with_reducible refine (spec_l1Num.calls k a0_1 t113 _ A5.out).mono ?_
                        rintro e w21 ⟨rfl, hb⟩
                        refine ⟨_, rfl, ?_⟩
                        have n0_ := Aside0.mk (blk_below (g := gb111) (o := .cells #[.int .i64 a0_0, .int .i64 a0_1, .int .i64 a0_2, .int .i64 a0_3, .int .i64 a0_4] 28 (0, 0)) (by (with_reducible repeat (first | refine blk_drewN ?_ _ | refine blk_drew ?_ | refine blk_alloc ?_ _)); exact BK111.out) hb)
                        have n1_ := Aside0.mk (below_step (by repeat (first | (with_reducible first | exact HB.out | apply below_alloc | apply pw_below_drewN | apply below_drew1 | refine below_set ?_ GE111.out) | exact HB.out)) hb)
                        clear BK111
                        clear HB
                        have BK111 := n0_
                        have HB := n1_
                        clear n0_ n1_
                        (try clear hb)
                        (try clear hb2)
                        (try clear hk)
                        (try clear hi)
                        refine hK.out _ _ ⟨(blk_cell BK111.out 0).trans rfl, (blk_cell BK111.out 1).trans rfl, (blk_cell BK111.out 2).trans rfl, (blk_cell BK111.out 3).trans rfl, (blk_cell BK111.out 4).trans rfl⟩ (fun hHeld => ?_)
                        clear hK K
                        refine norm_ (a' := ?_) ?_ ?_
                        rotate_left
                        · show Act.put _ (some 11) _ = _
                          simp only [Act.put, List.setIfInBounds_toArray, List.set_cons_zero, List.set_cons_succ, i64_w, i32_w]
                          rfl
                        refine pure_ (i := 8) (N := some 12) (v := ?_) (a' := ?_) #[true, true, true, true, true, true, true, true, true, false, true, true, false, false, false, true, true, false, false, false, false] rfl rfl (any_of HT_.out (by kernel_rfl)) (fun _ _ _ h => h) (Or.inl ⟨by rfl, ?_⟩) ?_ ?_
                        rotate_left
                        · intro w'
                          go_simp
                          with_reducible rfl
                        rotate_left
                        · simp only [Act.put, List.setIfInBounds_toArray, List.set_cons_zero, List.set_cons_succ, i64_w, i32_w]
                          rfl
                        refine pure_ (i := 9) (N := some 13) (v := ?_) (a' := ?_) #[true, true, true, true, true, true, true, true, true, true, true, true, false, false, false, true, true, false, false, false, false] rfl rfl (any_of HT_.out (by kernel_rfl)) (fun _ _ _ h => h) (Or.inl ⟨by rfl, ?_⟩) ?_ ?_
                        rotate_left
                        · intro w'
                          go_simp
                          with_reducible rfl
                        rotate_left
                        · simp only [Act.put, List.setIfInBounds_toArray, List.set_cons_zero, List.set_cons_succ, i64_w, i32_w]
                          rfl
                        refine one_ (i := 12) (N := some 16) #[true, true, true, true, true, true, true, true, true, true, true, true, true, false, false, true, true, false, false, false, false] rfl rfl (one_of HT_.out (by kernel_rfl)) (by decide) (fun K hK => ?_)
                        refine goes_ Tryd.func30 (by kernel_rfl) rfl #[.int .i64 a0_2] (by rfl) rfl rfl (by (try simp only [List.map_toArray, List.map_cons, List.map_nil]); first | done | rfl | (simp only [List.length_drop, List.length_take]; rfl)) ?_
                        with_reducible refine (spec_l1Num.calls k a0_2 t114 _ A8.out).mono ?_
                        rintro e w22 ⟨rfl, hb⟩
                        refine ⟨_, rfl, ?_⟩
                        have n0_ := Aside0.mk (blk_below (g := gb111) (o := .cells #[.int .i64 a0_0, .int .i64 a0_1, .int .i64 a0_2, .int .i64 a0_3, .int .i64 a0_4] 28 (0, 0)) (by (with_reducible repeat (first | refine blk_drewN ?_ _ | refine blk_drew ?_ | refine blk_alloc ?_ _)); exact BK111.out) hb)
                        have n1_ := Aside0.mk (below_step (by repeat (first | (with_reducible first | exact HB.out | apply below_alloc | apply pw_below_drewN | apply below_drew1 | refine below_set ?_ GE111.out) | exact HB.out)) hb)
                        clear BK111
                        clear HB
                        have BK111 := n0_
                        have HB := n1_
                        clear n0_ n1_
                        (try clear hb)
                        (try clear hb2)
                        (try clear hk)
                        (try clear hi)
                        refine hK.out _ _ ⟨(blk_cell BK111.out 0).trans rfl, (blk_cell BK111.out 1).trans rfl, (blk_cell BK111.out 2).trans rfl, (blk_cell BK111.out 3).trans rfl, (blk_cell BK111.out 4).trans rfl⟩ (fun hHeld => ?_)
                        clear hK K
                        refine norm_ (a' := ?_) ?_ ?_
                        rotate_left
                        · show Act.put _ (some 16) _ = _
                          simp only [Act.put, List.setIfInBounds_toArray, List.set_cons_zero, List.set_cons_succ, i64_w, i32_w]
                          rfl
                        refine pure_ (i := 13) (N := some 17) (v := ?_) (a' := ?_) #[true, true, true, true, true, true, true, true, true, true, true, true, true, true, false, true, true, false, false, false, false] rfl rfl (any_of HT_.out (by kernel_rfl)) (fun _ _ _ h => h) (Or.inl ⟨by rfl, ?_⟩) ?_ ?_
                        rotate_left
                        · intro w'
                          go_simp
                          with_reducible rfl
                        rotate_left
                        · simp only [Act.put, List.setIfInBounds_toArray, List.set_cons_zero, List.set_cons_succ, i64_w, i32_w]
                          rfl
                        refine pure_ (i := 14) (N := some 18) (v := ?_) (a' := ?_) #[true, true, true, true, true, true, true, true, true, true, true, true, true, true, true, true, true, false, false, false, false] rfl rfl (any_of HT_.out (by kernel_rfl)) (fun _ _ _ h => h) (Or.inl ⟨by rfl, ?_⟩) ?_ ?_
                        rotate_left
                        · intro w'
                          go_simp
                          with_reducible rfl
                        rotate_left
                        · simp only [Act.put, List.setIfInBounds_toArray, List.set_cons_zero, List.set_cons_succ, i64_w, i32_w]
                          rfl
                        refine one_ (i := 17) (N := some 21) #[true, true, true, true, true, true, true, true, true, true, true, true, true, true, true, true, true, true, false, false, false] rfl rfl (one_of HT_.out (by kernel_rfl)) (by decide) (fun K hK => ?_)
                        refine goes_ Tryd.func30 (by kernel_rfl) rfl #[.int .i64 a0_3] (by rfl) rfl rfl (by (try simp only [List.map_toArray, List.map_cons, List.map_nil]); first | done | rfl | (simp only [List.length_drop, List.length_take]; rfl)) ?_
                        with_reducible refine (spec_l1Num.calls k a0_3 t115 _ A11.out).mono ?_
                        rintro e w23 ⟨rfl, hb⟩
                        refine ⟨_, rfl, ?_⟩
                        have n0_ := Aside0.mk (blk_below (g := gb111) (o := .cells #[.int .i64 a0_0, .int .i64 a0_1, .int .i64 a0_2, .int .i64 a0_3, .int .i64 a0_4] 28 (0, 0)) (by (with_reducible repeat (first | refine blk_drewN ?_ _ | refine blk_drew ?_ | refine blk_alloc ?_ _)); exact BK111.out) hb)
                        have n1_ := Aside0.mk (below_step (by repeat (first | (with_reducible first | exact HB.out | apply below_alloc | apply pw_below_drewN | apply below_drew1 | refine below_set ?_ GE111.out) | exact HB.out)) hb)
                        clear BK111
                        clear HB
                        have BK111 := n0_
                        have HB := n1_
                        clear n0_ n1_
                        (try clear hb)
                        (try clear hb2)
                        (try clear hk)
                        (try clear hi)
                        refine hK.out _ _ ⟨(blk_cell BK111.out 0).trans rfl, (blk_cell BK111.out 1).trans rfl, (blk_cell BK111.out 2).trans rfl, (blk_cell BK111.out 3).trans rfl, (blk_cell BK111.out 4).trans rfl⟩ (fun hHeld => ?_)
                        clear hK K
                        refine norm_ (a' := ?_) ?_ ?_
                        rotate_left
                        · show Act.put _ (some 21) _ = _
                          simp only [Act.put, List.setIfInBounds_toArray, List.set_cons_zero, List.set_cons_succ, i64_w, i32_w]
                          rfl
                        refine pure_ (i := 18) (N := some 22) (v := ?_) (a' := ?_) #[true, true, true, true, true, true, true, true, true, true, true, true, true, true, true, true, true, true, true, false, false] rfl rfl (any_of HT_.out (by kernel_rfl)) (fun _ _ _ h => h) (Or.inl ⟨by rfl, ?_⟩) ?_ ?_
                        rotate_left
                        · intro w'
                          go_simp
                          with_reducible rfl
                        rotate_left
                        · simp only [Act.put, List.setIfInBounds_toArray, List.set_cons_zero, List.set_cons_succ, i64_w, i32_w]
                          rfl
                        refine pure_ (i := 19) (N := some 23) (v := ?_) (a' := ?_) #[true, true, true, true, true, true, true, true, true, true, true, true, true, true, true, true, true, true, true, true, false] rfl rfl (any_of HT_.out (by kernel_rfl)) (fun _ _ _ h => h) (Or.inl ⟨by rfl, ?_⟩) ?_ ?_
                        rotate_left
                        · intro w'
                          go_simp
                          with_reducible rfl
                        rotate_left
                        · simp only [Act.put, List.setIfInBounds_toArray, List.set_cons_zero, List.set_cons_succ, i64_w, i32_w]
                          rfl
                        refine pure_ (i := 20) (N := some 3) (v := ?_) (a' := ?_) #[true, true, true, true, true, true, true, true, true, true, true, true, true, true, true, true, true, true, true, true, true] rfl rfl (any_of HT_.out (by kernel_rfl)) (fun _ _ _ h => h) (Or.inl ⟨by rfl, ?_⟩) ?_ ?_
                        rotate_left
                        · intro w'
                          go_simp
                          with_reducible rfl
                        rotate_left
                        · simp only [Act.put, List.setIfInBounds_toArray, List.set_cons_zero, List.set_cons_succ, i64_w, i32_w]
                          rfl
                        refine done_ (done_of HT_.out (by kernel_rfl)) ?_
                        have hcz24_0 : w23.cell? ⟨gb111, 0, none⟩ = some (.int .i64 a0_0) := (blk_cell BK111.out 0).trans rfl
                        have hcz24_1 : w23.cell? ⟨gb111, 1, none⟩ = some (.int .i64 a0_1) := (blk_cell BK111.out 1).trans rfl
                        have hcz24_2 : w23.cell? ⟨gb111, 2, none⟩ = some (.int .i64 a0_2) := (blk_cell BK111.out 2).trans rfl
                        have hcz24_3 : w23.cell? ⟨gb111, 3, none⟩ = some (.int .i64 a0_3) := (blk_cell BK111.out 3).trans rfl
                        have hcz24_4 : w23.cell? ⟨gb111, 4, none⟩ = some (.int .i64 a0_4) := (blk_cell BK111.out 4).trans rfl
                        have hfz24_0 := blk_frozen BK111.out 0
                        have hfz24_1 := blk_frozen BK111.out 1
                        have hfz24_2 := blk_frozen BK111.out 2
                        have hfz24_3 := blk_frozen BK111.out 3
                        have hfz24_4 := blk_frozen BK111.out 4
                        try go_wp2_with (first | ((with_reducible refine gate_callee (f := 30) rfl ?_); refine goesL_ (some 32) rfl rfl Tryd.func30 (by kernel_rfl) rfl #[.int .i64 (wrap64 (-a0_4))] rfl (by (try simp only [List.map_toArray, List.map_cons, List.map_nil]); first | done | rfl | (simp only [List.length_drop, List.length_take]; rfl)) ?_; (with_reducible refine (spec_l1Num.calls k (wrap64 (-a0_4)) t116 _ A16.out).mono ?_); rintro e w25 ⟨rfl, hb⟩; refine ⟨_, rfl, ?_⟩; have n0_ := Aside0.mk (blk_below (g := gb111) (o := .cells #[.int .i64 a0_0, .int .i64 a0_1, .int .i64 a0_2, .int .i64 a0_3, .int .i64 a0_4] 28 (0, 0)) (by (with_reducible repeat (first | refine blk_drewN ?_ _ | refine blk_drew ?_ | refine blk_alloc ?_ _)); exact BK111.out) hb); have n1_ := Aside0.mk (below_step (by repeat (first | (with_reducible first | exact HB.out | apply below_alloc | apply pw_below_drewN | apply below_drew1 | refine below_set ?_ GE111.out) | exact HB.out)) hb); clear BK111; clear HB; have BK111 := n0_; have HB := n1_; clear n0_ n1_; (try clear hb); (try clear hb2); (try clear hk); (try clear hi)))
                        go_ret
                        exact ⟨by first | rfl | (simp [errW_none, errW_some] <;> rfl) | (simp [*, errW_none, errW_some] <;> rfl), by repeat (first | (with_reducible first | exact HB.out | apply below_alloc | apply pw_below_drewN | apply below_drew1 | refine below_set ?_ GE111.out) | exact HB.out)⟩
                      · rw [if_neg c17] at H
                        exact absurd H (by simp)
                    · rw [if_neg c15] at H
                      exact absurd H (by simp)
                  · rw [if_neg c14] at H
                    have c14b0 : decide (a0_4 < 0) = false := decide_eq_false c14
                    clear c14
                    replace H := Option.bind_eq_some_iff.mp H
                    obtain ⟨t117, A260, H⟩ := H
                    replace H : (if (((((((((⟨#[108, 101, 103, 32]⟩ : ByteArray) ++ t112) ++ (⟨#[45]⟩ : ByteArray)) ++ t113) ++ (⟨#[32, 116, 97, 112, 101, 32]⟩ : ByteArray)) ++ t114) ++ (⟨#[32, 99, 111, 109, 112, 97, 115, 115, 32]⟩ : ByteArray)) ++ t115) ++ (⟨#[32, 115, 108, 111, 112, 101, 32]⟩ : ByteArray)).size + t117.size ≤ 9223372036854775807 then (some ((((((((((⟨#[108, 101, 103, 32]⟩ : ByteArray) ++ t112) ++ (⟨#[45]⟩ : ByteArray)) ++ t113) ++ (⟨#[32, 116, 97, 112, 101, 32]⟩ : ByteArray)) ++ t114) ++ (⟨#[32, 99, 111, 109, 112, 97, 115, 115, 32]⟩ : ByteArray)) ++ t115) ++ (⟨#[32, 115, 108, 111, 112, 101, 32]⟩ : ByteArray)) ++ t117)) else (none)) = some r := H
                    have A26 := Aside0.mk A260
                    clear A260
                    by_cases c27 : (((((((((⟨#[108, 101, 103, 32]⟩ : ByteArray) ++ t112) ++ (⟨#[45]⟩ : ByteArray)) ++ t113) ++ (⟨#[32, 116, 97, 112, 101, 32]⟩ : ByteArray)) ++ t114) ++ (⟨#[32, 99, 111, 109, 112, 97, 115, 115, 32]⟩ : ByteArray)) ++ t115) ++ (⟨#[32, 115, 108, 111, 112, 101, 32]⟩ : ByteArray)).size + t117.size ≤ 9223372036854775807
                    · rw [if_pos c27] at H
                      have c27b0 := eq_true c27
                      have c27b1 : decide ((((((((((⟨#[108, 101, 103, 32]⟩ : ByteArray) ++ t112) ++ (⟨#[45]⟩ : ByteArray)) ++ t113) ++ (⟨#[32, 116, 97, 112, 101, 32]⟩ : ByteArray)) ++ t114) ++ (⟨#[32, 99, 111, 109, 112, 97, 115, 115, 32]⟩ : ByteArray)) ++ t115) ++ (⟨#[32, 115, 108, 111, 112, 101, 32]⟩ : ByteArray)).size + t117.size ≤ 9223372036854775807) = true := decide_eq_true c27
                      try have c27b2 : (9223372036854775807 < (((((((((⟨#[108, 101, 103, 32]⟩ : ByteArray) ++ t112) ++ (⟨#[45]⟩ : ByteArray)) ++ t113) ++ (⟨#[32, 116, 97, 112, 101, 32]⟩ : ByteArray)) ++ t114) ++ (⟨#[32, 99, 111, 109, 112, 97, 115, 115, 32]⟩ : ByteArray)) ++ t115) ++ (⟨#[32, 115, 108, 111, 112, 101, 32]⟩ : ByteArray)).size + t117.size) = False := eq_false (Nat.not_lt.2 c27)
                      (try have c27b6 : (9223372036854775807 < 4 + t112.size + 1 + t113.size + 6 + t114.size + 9 + t115.size + 7 + t117.size) = False := eq_false (by have h_ := c27; have hz0_ : (⟨#[108, 101, 103, 32]⟩ : ByteArray).size = 4 := rfl; have hz1_ : (⟨#[45]⟩ : ByteArray).size = 1 := rfl; have hz2_ : (⟨#[32, 116, 97, 112, 101, 32]⟩ : ByteArray).size = 6 := rfl; have hz3_ : (⟨#[32, 99, 111, 109, 112, 97, 115, 115, 32]⟩ : ByteArray).size = 9 := rfl; have hz4_ : (⟨#[32, 115, 108, 111, 112, 101, 32]⟩ : ByteArray).size = 7 := rfl; simp only [ByteArray.size_append, hz0_, hz1_, hz2_, hz3_, hz4_] at h_; omega))
                      obtain rfl := Option.some.inj H
                      go_enter Tryd.func34, Tryd.ntmps34
                      try go_wp2_with (first | ((with_reducible refine gate_dst (N := 1) rfl ?_); refine box_event ?hg (N := 1) ?hd (cs := #[.int .i64 a0_0, .int .i64 a0_1, .int .i64 a0_2, .int .i64 a0_3, .int .i64 a0_4]) (t := 28) ?hr ?_; (case hd => rfl); (case hg => rfl); (case hr => first | (go_simp; done) | (go_simp; rfl)); intro gb111 hg w28 hbox hb; have n0_ := Aside0.mk (below_step (by repeat (first | (with_reducible first | exact HB.out | apply below_alloc | apply pw_below_drewN | apply below_drew1) | exact HB.out)) hb); have n1_ := Aside0.mk (hbox); have n2_ := Aside0.mk ((by rw [hg]; exact (below_size (by repeat (first | (with_reducible first | exact HB.out | apply below_alloc | apply pw_below_drewN | apply below_drew1) | exact HB.out))) : w.heap.size ≤ gb111)); have n3_ := Aside0.mk ((by rw [hg]; exact (below_size (by repeat (first | (with_reducible first | exact HB.out | apply below_alloc | apply pw_below_drewN | apply below_drew1) | exact HB.out))) : w.heap.size ≤ gb111)); clear HB; have HB := n0_; have BK111 := n1_; have GW111 := n2_; have GE111 := n3_; clear n0_ n1_ n2_ n3_; clear hb hbox hg))
                      have n0_ := Aside0.mk (blk_drew BK111.out)
                      have n1_ := Aside0.mk (below_drew1 HB.out)
                      clear BK111
                      clear HB
                      have BK111 := n0_
                      have HB := n1_
                      clear n0_ n1_
                      refine start_ (n := 21) (S := fun w' => w'.cell? ⟨gb111, 0, none⟩ = some (.int .i64 a0_0) ∧ w'.cell? ⟨gb111, 1, none⟩ = some (.int .i64 a0_1) ∧ w'.cell? ⟨gb111, 2, none⟩ = some (.int .i64 a0_2) ∧ w'.cell? ⟨gb111, 3, none⟩ = some (.int .i64 a0_3) ∧ w'.cell? ⟨gb111, 4, none⟩ = some (.int .i64 a0_4)) (ds := []) #[false, false, false, false, false, false, false, false, false, false, false, false, false, false, false, false, false, false, false, false, false] (by kernel_rfl) rfl rfl ⟨(blk_cell BK111.out 0).trans rfl, (blk_cell BK111.out 1).trans rfl, (blk_cell BK111.out 2).trans rfl, (blk_cell BK111.out 3).trans rfl, (blk_cell BK111.out 4).trans rfl⟩ (fun hHeld => ?_); refine with_tabW spec_l4Text.tab1 spec_l4Text.bits1 (fun HT_ HW_ => ?_)
                      generalize w28.drew = w29 at BK111 HB hHeld ⊢
                      refine pure_ (i := 0) (N := some 4) (v := ?_) (a' := ?_) #[true, false, false, false, false, false, false, false, false, false, false, false, false, false, false, false, false, false, false, false, false] rfl rfl (any_of HT_.out (by kernel_rfl)) (fun _ _ _ h => h) (Or.inl ⟨by rfl, ?_⟩) ?_ ?_
                      rotate_left
                      · intro w'
                        go_simp
                        with_reducible rfl
                      rotate_left
                      · simp only [Act.put, List.setIfInBounds_toArray, List.set_cons_zero, List.set_cons_succ, i64_w, i32_w]
                        rfl
                      refine pure_ (i := 5) (N := some 9) (v := ?_) (a' := ?_) #[true, false, false, false, false, true, false, false, false, false, false, false, false, false, false, false, false, false, false, false, false] rfl rfl (any_of HT_.out (by kernel_rfl)) (fun _ _ _ h => h) (Or.inl ⟨by rfl, ?_⟩) ?_ ?_
                      rotate_left
                      · intro w'
                        go_simp
                        with_reducible rfl
                      rotate_left
                      · simp only [Act.put, List.setIfInBounds_toArray, List.set_cons_zero, List.set_cons_succ, i64_w, i32_w]
                        rfl
                      refine pure_ (i := 10) (N := some 14) (v := ?_) (a' := ?_) #[true, false, false, false, false, true, false, false, false, false, true, false, false, false, false, false, false, false, false, false, false] rfl rfl (any_of HT_.out (by kernel_rfl)) (fun _ _ _ h => h) (Or.inl ⟨by rfl, ?_⟩) ?_ ?_
                      rotate_left
                      · intro w'
                        go_simp
                        with_reducible rfl
                      rotate_left
                      · simp only [Act.put, List.setIfInBounds_toArray, List.set_cons_zero, List.set_cons_succ, i64_w, i32_w]
                        rfl
                      refine pure_ (i := 15) (N := some 19) (v := ?_) (a' := ?_) #[true, false, false, false, false, true, false, false, false, false, true, false, false, false, false, true, false, false, false, false, false] rfl rfl (any_of HT_.out (by kernel_rfl)) (fun _ _ _ h => h) (Or.inl ⟨by rfl, ?_⟩) ?_ ?_
                      rotate_left
                      · intro w'
                        go_simp
                        with_reducible rfl
                      rotate_left
                      · simp only [Act.put, List.setIfInBounds_toArray, List.set_cons_zero, List.set_cons_succ, i64_w, i32_w]
                        rfl
                      refine take_ (i := 1) (N := some 5) (v := ?_) (a' := ?_) #[true, true, false, false, false, true, false, false, false, false, true, false, false, false, false, true, false, false, false, false, false] rfl rfl (take_ofW HT_.out HW_.out (by kernel_rfl)) (fun _ _ _ h => h) (Or.inl ⟨by rfl, ?_⟩) hHeld ?_ ?_
                      rotate_left
                      · rintro w' ⟨s0, s1, s2, s3, s4⟩
                        go_simp
                        with_reducible rfl
                      rotate_left
                      · simp only [Act.put, List.setIfInBounds_toArray, List.set_cons_zero, List.set_cons_succ, i64_w, i32_w]
                        rfl
                      refine take_ (i := 6) (N := some 10) (v := ?_) (a' := ?_) #[true, true, false, false, false, true, true, false, false, false, true, false, false, false, false, true, false, false, false, false, false] rfl rfl (take_ofW HT_.out HW_.out (by kernel_rfl)) (fun _ _ _ h => h) (Or.inl ⟨by rfl, ?_⟩) hHeld ?_ ?_
                      rotate_left
                      · rintro w' ⟨s0, s1, s2, s3, s4⟩
                        go_simp
                        with_reducible rfl
                      rotate_left
                      · simp only [Act.put, List.setIfInBounds_toArray, List.set_cons_zero, List.set_cons_succ, i64_w, i32_w]
                        rfl
                      refine take_ (i := 11) (N := some 15) (v := ?_) (a' := ?_) #[true, true, false, false, false, true, true, false, false, false, true, true, false, false, false, true, false, false, false, false, false] rfl rfl (take_ofW HT_.out HW_.out (by kernel_rfl)) (fun _ _ _ h => h) (Or.inl ⟨by rfl, ?_⟩) hHeld ?_ ?_
                      rotate_left
                      · rintro w' ⟨s0, s1, s2, s3, s4⟩
                        go_simp
                        with_reducible rfl
                      rotate_left
                      · simp only [Act.put, List.setIfInBounds_toArray, List.set_cons_zero, List.set_cons_succ, i64_w, i32_w]
                        rfl
                      refine take_ (i := 16) (N := some 20) (v := ?_) (a' := ?_) #[true, true, false, false, false, true, true, false, false, false, true, true, false, false, false, true, true, false, false, false, false] rfl rfl (take_ofW HT_.out HW_.out (by kernel_rfl)) (fun _ _ _ h => h) (Or.inl ⟨by rfl, ?_⟩) hHeld ?_ ?_
                      rotate_left
                      · rintro w' ⟨s0, s1, s2, s3, s4⟩
                        go_simp
                        with_reducible rfl
                      rotate_left
                      · simp only [Act.put, List.setIfInBounds_toArray, List.set_cons_zero, List.set_cons_succ, i64_w, i32_w]
                        rfl
                      refine one_ (i := 2) (N := some 6) #[true, true, true, false, false, true, true, false, false, false, true, true, false, false, false, true, true, false, false, false, false] rfl rfl (one_of HT_.out (by kernel_rfl)) (by decide) (fun K hK => ?_)
                      refine goes_ Tryd.func30 (by kernel_rfl) rfl #[.int .i64 a0_0] (by rfl) rfl rfl (by (try simp only [List.map_toArray, List.map_cons, List.map_nil]); first | done | rfl | (simp only [List.length_drop, List.length_take]; rfl)) ?_
                      with_reducible refine (spec_l1Num.calls k a0_0 t112 _ A2.out).mono ?_
                      rintro e w30 ⟨rfl, hb⟩
                      refine ⟨_, rfl, ?_⟩
                      have n0_ := Aside0.mk (blk_below (g := gb111) (o := .cells #[.int .i64 a0_0, .int .i64 a0_1, .int .i64 a0_2, .int .i64 a0_3, .int .i64 a0_4] 28 (0, 0)) (by (with_reducible repeat (first | refine blk_drewN ?_ _ | refine blk_drew ?_ | refine blk_alloc ?_ _)); exact BK111.out) hb)
                      have n1_ := Aside0.mk (below_step (by repeat (first | (with_reducible first | exact HB.out | apply below_alloc | apply pw_below_drewN | apply below_drew1 | refine below_set ?_ GE111.out) | exact HB.out)) hb)
                      clear BK111
                      clear HB
                      have BK111 := n0_
                      have HB := n1_
                      clear n0_ n1_
                      (try clear hb)
                      (try clear hb2)
                      (try clear hk)
                      (try clear hi)
                      refine hK.out _ _ ⟨(blk_cell BK111.out 0).trans rfl, (blk_cell BK111.out 1).trans rfl, (blk_cell BK111.out 2).trans rfl, (blk_cell BK111.out 3).trans rfl, (blk_cell BK111.out 4).trans rfl⟩ (fun hHeld => ?_)
                      clear hK K
                      refine norm_ (a' := ?_) ?_ ?_
                      rotate_left
                      · show Act.put _ (some 6) _ = _
                        simp only [Act.put, List.setIfInBounds_toArray, List.set_cons_zero, List.set_cons_succ, i64_w, i32_w]
                        rfl
                      refine pure_ (i := 3) (N := some 7) (v := ?_) (a' := ?_) #[true, true, true, true, false, true, true, false, false, false, true, true, false, false, false, true, true, false, false, false, false] rfl rfl (any_of HT_.out (by kernel_rfl)) (fun _ _ _ h => h) (Or.inl ⟨by rfl, ?_⟩) ?_ ?_
                      rotate_left
                      · intro w'
                        go_simp
                        with_reducible rfl
                      rotate_left
                      · simp only [Act.put, List.setIfInBounds_toArray, List.set_cons_zero, List.set_cons_succ, i64_w, i32_w]
                        rfl
                      refine pure_ (i := 4) (N := some 8) (v := ?_) (a' := ?_) #[true, true, true, true, true, true, true, false, false, false, true, true, false, false, false, true, true, false, false, false, false] rfl rfl (any_of HT_.out (by kernel_rfl)) (fun _ _ _ h => h) (Or.inl ⟨by rfl, ?_⟩) ?_ ?_
                      rotate_left
                      · intro w'
                        go_simp
                        with_reducible rfl
                      rotate_left
                      · simp only [Act.put, List.setIfInBounds_toArray, List.set_cons_zero, List.set_cons_succ, i64_w, i32_w]
                        rfl
                      refine one_ (i := 7) (N := some 11) #[true, true, true, true, true, true, true, true, false, false, true, true, false, false, false, true, true, false, false, false, false] rfl rfl (one_of HT_.out (by kernel_rfl)) (by decide) (fun K hK => ?_)
                      refine goes_ Tryd.func30 (by kernel_rfl) rfl #[.int .i64 a0_1] (by rfl) rfl rfl (by (try simp only [List.map_toArray, List.map_cons, List.map_nil]); first | done | rfl | (simp only [List.length_drop, List.length_take]; rfl)) ?_
                      with_reducible refine (spec_l1Num.calls k a0_1 t113 _ A5.out).mono ?_
                      rintro e w31 ⟨rfl, hb⟩
                      refine ⟨_, rfl, ?_⟩
                      have n0_ := Aside0.mk (blk_below (g := gb111) (o := .cells #[.int .i64 a0_0, .int .i64 a0_1, .int .i64 a0_2, .int .i64 a0_3, .int .i64 a0_4] 28 (0, 0)) (by (with_reducible repeat (first | refine blk_drewN ?_ _ | refine blk_drew ?_ | refine blk_alloc ?_ _)); exact BK111.out) hb)
                      have n1_ := Aside0.mk (below_step (by repeat (first | (with_reducible first | exact HB.out | apply below_alloc | apply pw_below_drewN | apply below_drew1 | refine below_set ?_ GE111.out) | exact HB.out)) hb)
                      clear BK111
                      clear HB
                      have BK111 := n0_
                      have HB := n1_
                      clear n0_ n1_
                      (try clear hb)
                      (try clear hb2)
                      (try clear hk)
                      (try clear hi)
                      refine hK.out _ _ ⟨(blk_cell BK111.out 0).trans rfl, (blk_cell BK111.out 1).trans rfl, (blk_cell BK111.out 2).trans rfl, (blk_cell BK111.out 3).trans rfl, (blk_cell BK111.out 4).trans rfl⟩ (fun hHeld => ?_)
                      clear hK K
                      refine norm_ (a' := ?_) ?_ ?_
                      rotate_left
                      · show Act.put _ (some 11) _ = _
                        simp only [Act.put, List.setIfInBounds_toArray, List.set_cons_zero, List.set_cons_succ, i64_w, i32_w]
                        rfl
                      refine pure_ (i := 8) (N := some 12) (v := ?_) (a' := ?_) #[true, true, true, true, true, true, true, true, true, false, true, true, false, false, false, true, true, false, false, false, false] rfl rfl (any_of HT_.out (by kernel_rfl)) (fun _ _ _ h => h) (Or.inl ⟨by rfl, ?_⟩) ?_ ?_
                      rotate_left
                      · intro w'
                        go_simp
                        with_reducible rfl
                      rotate_left
                      · simp only [Act.put, List.setIfInBounds_toArray, List.set_cons_zero, List.set_cons_succ, i64_w, i32_w]
                        rfl
                      refine pure_ (i := 9) (N := some 13) (v := ?_) (a' := ?_) #[true, true, true, true, true, true, true, true, true, true, true, true, false, false, false, true, true, false, false, false, false] rfl rfl (any_of HT_.out (by kernel_rfl)) (fun _ _ _ h => h) (Or.inl ⟨by rfl, ?_⟩) ?_ ?_
                      rotate_left
                      · intro w'
                        go_simp
                        with_reducible rfl
                      rotate_left
                      · simp only [Act.put, List.setIfInBounds_toArray, List.set_cons_zero, List.set_cons_succ, i64_w, i32_w]
                        rfl
                      refine one_ (i := 12) (N := some 16) #[true, true, true, true, true, true, true, true, true, true, true, true, true, false, false, true, true, false, false, false, false] rfl rfl (one_of HT_.out (by kernel_rfl)) (by decide) (fun K hK => ?_)
                      refine goes_ Tryd.func30 (by kernel_rfl) rfl #[.int .i64 a0_2] (by rfl) rfl rfl (by (try simp only [List.map_toArray, List.map_cons, List.map_nil]); first | done | rfl | (simp only [List.length_drop, List.length_take]; rfl)) ?_
                      with_reducible refine (spec_l1Num.calls k a0_2 t114 _ A8.out).mono ?_
                      rintro e w32 ⟨rfl, hb⟩
                      refine ⟨_, rfl, ?_⟩
                      have n0_ := Aside0.mk (blk_below (g := gb111) (o := .cells #[.int .i64 a0_0, .int .i64 a0_1, .int .i64 a0_2, .int .i64 a0_3, .int .i64 a0_4] 28 (0, 0)) (by (with_reducible repeat (first | refine blk_drewN ?_ _ | refine blk_drew ?_ | refine blk_alloc ?_ _)); exact BK111.out) hb)
                      have n1_ := Aside0.mk (below_step (by repeat (first | (with_reducible first | exact HB.out | apply below_alloc | apply pw_below_drewN | apply below_drew1 | refine below_set ?_ GE111.out) | exact HB.out)) hb)
                      clear BK111
                      clear HB
                      have BK111 := n0_
                      have HB := n1_
                      clear n0_ n1_
                      (try clear hb)
                      (try clear hb2)
                      (try clear hk)
                      (try clear hi)
                      refine hK.out _ _ ⟨(blk_cell BK111.out 0).trans rfl, (blk_cell BK111.out 1).trans rfl, (blk_cell BK111.out 2).trans rfl, (blk_cell BK111.out 3).trans rfl, (blk_cell BK111.out 4).trans rfl⟩ (fun hHeld => ?_)
                      clear hK K
                      refine norm_ (a' := ?_) ?_ ?_
                      rotate_left
                      · show Act.put _ (some 16) _ = _
                        simp only [Act.put, List.setIfInBounds_toArray, List.set_cons_zero, List.set_cons_succ, i64_w, i32_w]
                        rfl
                      refine pure_ (i := 13) (N := some 17) (v := ?_) (a' := ?_) #[true, true, true, true, true, true, true, true, true, true, true, true, true, true, false, true, true, false, false, false, false] rfl rfl (any_of HT_.out (by kernel_rfl)) (fun _ _ _ h => h) (Or.inl ⟨by rfl, ?_⟩) ?_ ?_
                      rotate_left
                      · intro w'
                        go_simp
                        with_reducible rfl
                      rotate_left
                      · simp only [Act.put, List.setIfInBounds_toArray, List.set_cons_zero, List.set_cons_succ, i64_w, i32_w]
                        rfl
                      refine pure_ (i := 14) (N := some 18) (v := ?_) (a' := ?_) #[true, true, true, true, true, true, true, true, true, true, true, true, true, true, true, true, true, false, false, false, false] rfl rfl (any_of HT_.out (by kernel_rfl)) (fun _ _ _ h => h) (Or.inl ⟨by rfl, ?_⟩) ?_ ?_
                      rotate_left
                      · intro w'
                        go_simp
                        with_reducible rfl
                      rotate_left
                      · simp only [Act.put, List.setIfInBounds_toArray, List.set_cons_zero, List.set_cons_succ, i64_w, i32_w]
                        rfl
                      refine one_ (i := 17) (N := some 21) #[true, true, true, true, true, true, true, true, true, true, true, true, true, true, true, true, true, true, false, false, false] rfl rfl (one_of HT_.out (by kernel_rfl)) (by decide) (fun K hK => ?_)
                      refine goes_ Tryd.func30 (by kernel_rfl) rfl #[.int .i64 a0_3] (by rfl) rfl rfl (by (try simp only [List.map_toArray, List.map_cons, List.map_nil]); first | done | rfl | (simp only [List.length_drop, List.length_take]; rfl)) ?_
                      with_reducible refine (spec_l1Num.calls k a0_3 t115 _ A11.out).mono ?_
                      rintro e w33 ⟨rfl, hb⟩
                      refine ⟨_, rfl, ?_⟩
                      have n0_ := Aside0.mk (blk_below (g := gb111) (o := .cells #[.int .i64 a0_0, .int .i64 a0_1, .int .i64 a0_2, .int .i64 a0_3, .int .i64 a0_4] 28 (0, 0)) (by (with_reducible repeat (first | refine blk_drewN ?_ _ | refine blk_drew ?_ | refine blk_alloc ?_ _)); exact BK111.out) hb)
                      have n1_ := Aside0.mk (below_step (by repeat (first | (with_reducible first | exact HB.out | apply below_alloc | apply pw_below_drewN | apply below_drew1 | refine below_set ?_ GE111.out) | exact HB.out)) hb)
                      clear BK111
                      clear HB
                      have BK111 := n0_
                      have HB := n1_
                      clear n0_ n1_
                      (try clear hb)
                      (try clear hb2)
                      (try clear hk)
                      (try clear hi)
                      refine hK.out _ _ ⟨(blk_cell BK111.out 0).trans rfl, (blk_cell BK111.out 1).trans rfl, (blk_cell BK111.out 2).trans rfl, (blk_cell BK111.out 3).trans rfl, (blk_cell BK111.out 4).trans rfl⟩ (fun hHeld => ?_)
                      clear hK K
                      refine norm_ (a' := ?_) ?_ ?_
                      rotate_left
                      · show Act.put _ (some 21) _ = _
                        simp only [Act.put, List.setIfInBounds_toArray, List.set_cons_zero, List.set_cons_succ, i64_w, i32_w]
                        rfl
                      refine pure_ (i := 18) (N := some 22) (v := ?_) (a' := ?_) #[true, true, true, true, true, true, true, true, true, true, true, true, true, true, true, true, true, true, true, false, false] rfl rfl (any_of HT_.out (by kernel_rfl)) (fun _ _ _ h => h) (Or.inl ⟨by rfl, ?_⟩) ?_ ?_
                      rotate_left
                      · intro w'
                        go_simp
                        with_reducible rfl
                      rotate_left
                      · simp only [Act.put, List.setIfInBounds_toArray, List.set_cons_zero, List.set_cons_succ, i64_w, i32_w]
                        rfl
                      refine pure_ (i := 19) (N := some 23) (v := ?_) (a' := ?_) #[true, true, true, true, true, true, true, true, true, true, true, true, true, true, true, true, true, true, true, true, false] rfl rfl (any_of HT_.out (by kernel_rfl)) (fun _ _ _ h => h) (Or.inl ⟨by rfl, ?_⟩) ?_ ?_
                      rotate_left
                      · intro w'
                        go_simp
                        with_reducible rfl
                      rotate_left
                      · simp only [Act.put, List.setIfInBounds_toArray, List.set_cons_zero, List.set_cons_succ, i64_w, i32_w]
                        rfl
                      refine pure_ (i := 20) (N := some 3) (v := ?_) (a' := ?_) #[true, true, true, true, true, true, true, true, true, true, true, true, true, true, true, true, true, true, true, true, true] rfl rfl (any_of HT_.out (by kernel_rfl)) (fun _ _ _ h => h) (Or.inl ⟨by rfl, ?_⟩) ?_ ?_
                      rotate_left
                      · intro w'
                        go_simp
                        with_reducible rfl
                      rotate_left
                      · simp only [Act.put, List.setIfInBounds_toArray, List.set_cons_zero, List.set_cons_succ, i64_w, i32_w]
                        rfl
                      refine done_ (done_of HT_.out (by kernel_rfl)) ?_
                      have hcz34_0 : w33.cell? ⟨gb111, 0, none⟩ = some (.int .i64 a0_0) := (blk_cell BK111.out 0).trans rfl
                      have hcz34_1 : w33.cell? ⟨gb111, 1, none⟩ = some (.int .i64 a0_1) := (blk_cell BK111.out 1).trans rfl
                      have hcz34_2 : w33.cell? ⟨gb111, 2, none⟩ = some (.int .i64 a0_2) := (blk_cell BK111.out 2).trans rfl
                      have hcz34_3 : w33.cell? ⟨gb111, 3, none⟩ = some (.int .i64 a0_3) := (blk_cell BK111.out 3).trans rfl
                      have hcz34_4 : w33.cell? ⟨gb111, 4, none⟩ = some (.int .i64 a0_4) := (blk_cell BK111.out 4).trans rfl
                      have hfz34_0 := blk_frozen BK111.out 0
                      have hfz34_1 := blk_frozen BK111.out 1
                      have hfz34_2 := blk_frozen BK111.out 2
                      have hfz34_3 := blk_frozen BK111.out 3
                      have hfz34_4 := blk_frozen BK111.out 4
                      try go_wp2_with (first | ((with_reducible refine gate_callee (f := 30) rfl ?_); refine goesL_ (some 37) rfl rfl Tryd.func30 (by kernel_rfl) rfl #[.int .i64 a0_4] rfl (by (try simp only [List.map_toArray, List.map_cons, List.map_nil]); first | done | rfl | (simp only [List.length_drop, List.length_take]; rfl)) ?_; (with_reducible refine (spec_l1Num.calls k a0_4 t117 _ A26.out).mono ?_); rintro e w35 ⟨rfl, hb⟩; refine ⟨_, rfl, ?_⟩; have n0_ := Aside0.mk (blk_below (g := gb111) (o := .cells #[.int .i64 a0_0, .int .i64 a0_1, .int .i64 a0_2, .int .i64 a0_3, .int .i64 a0_4] 28 (0, 0)) (by (with_reducible repeat (first | refine blk_drewN ?_ _ | refine blk_drew ?_ | refine blk_alloc ?_ _)); exact BK111.out) hb); have n1_ := Aside0.mk (below_step (by repeat (first | (with_reducible first | exact HB.out | apply below_alloc | apply pw_below_drewN | apply below_drew1 | refine below_set ?_ GE111.out) | exact HB.out)) hb); clear BK111; clear HB; have BK111 := n0_; have HB := n1_; clear n0_ n1_; (try clear hb); (try clear hb2); (try clear hk); (try clear hi)))
                      go_ret
                      exact ⟨by first | rfl | (simp [errW_none, errW_some] <;> rfl) | (simp [*, errW_none, errW_some] <;> rfl), by repeat (first | (with_reducible first | exact HB.out | apply below_alloc | apply pw_below_drewN | apply below_drew1 | refine below_set ?_ GE111.out) | exact HB.out)⟩
                    · rw [if_neg c27] at H
                      exact absurd H (by simp)
                · rw [if_neg c13] at H
                  exact absurd H (by simp)
              · rw [if_neg c12] at H
                exact absurd H (by simp)
            · rw [if_neg c10] at H
              exact absurd H (by simp)
          · rw [if_neg c9] at H
            exact absurd H (by simp)
        · rw [if_neg c7] at H
          exact absurd H (by simp)
      · rw [if_neg c6] at H
        exact absurd H (by simp)
    · rw [if_neg c4] at H
      exact absurd H (by simp)
  · rw [if_neg c3] at H
    exact absurd H (by simp)

/-! ### spec_l1Split: function 41 -/
def spec_l1Split.l0 : Nat → ByteArray → Int → List ByteArray → Int → Int → Option (List ByteArray)
  | 0, _, _, _, _, _ => none
  | k + 1, x0, x1, x5, x6, x7 => if x7 < (x0.size : Int) then (if 0 ≤ x7 then (if (bt x0 x7) = x1 then (if 0 ≤ x6 then (if x6 ≤ x7 then (if x7 ≤ (x0.size : Int) then (if x5.length < 8796093022208 then (spec_l1Split.l0 k x0 x1 (x5 ++ [x0.extract (x6 : Int).toNat (x7 : Int).toNat]) (wrap64 (x7 + 1)) (wrap64 (x7 + 1))) else (none)) else (none)) else (none)) else (none)) else (spec_l1Split.l0 k x0 x1 x5 x6 (wrap64 (x7 + 1)))) else (none)) else (if 0 ≤ x6 then (if x6 ≤ (x0.size : Int) then (if x5.length < 8796093022208 then (some (x5 ++ [x0.extract (x6 : Int).toNat x0.size])) else (none)) else (none)) else (none))
def spec_l1Split.f (k : Nat) (a0 : ByteArray) (a1 : Int) : Option (List ByteArray) := spec_l1Split.l0 k a0 a1 (([] : List ByteArray)) 0 0
theorem spec_l1Split.mono_l : ∀ k, (∀ y0 y1 y2 y3 y4, LeO (spec_l1Split.l0 k y0 y1 y2 y3 y4) (spec_l1Split.l0 (k + 1) y0 y1 y2 y3 y4))
  | 0 => fun _ _ _ _ _ r h => by simp [spec_l1Split.l0] at h
  | k + 1 => by
    have ih0 := spec_l1Split.mono_l k
    · intro y0 y1 y2 y3 y4
      unfold spec_l1Split.l0
      repeat' first
      | (with_reducible exact ih0 _ _ _ _ _)
      | (with_reducible exact LeO.refl _)
      | (with_reducible exact LeO.none _)
      | (with_reducible refine LeO.ite ?_ ?_)
      | (with_reducible refine LeO.bind ?_ (fun _ => ?_))
      | exact ih0 _ _ _ _ _
      | exact LeO.none _
      | refine LeO.ite ?_ ?_
      | refine LeO.bind ?_ (fun _ => ?_)
theorem spec_l1Split.mono : ∀ a0 a1 k, LeO (spec_l1Split.f k a0 a1) (spec_l1Split.f (k + 1) a0 a1) := by
  intro a0 a1 k
  have ih0 := spec_l1Split.mono_l k
  unfold spec_l1Split.f
  repeat' first
      | (with_reducible exact ih0 _ _ _ _ _)
      | (with_reducible exact LeO.refl _)
      | (with_reducible exact LeO.none _)
      | (with_reducible refine LeO.ite ?_ ?_)
      | (with_reducible refine LeO.bind ?_ (fun _ => ?_))
      | exact ih0 _ _ _ _ _
      | exact LeO.none _
      | refine LeO.ite ?_ ?_
      | refine LeO.bind ?_ (fun _ => ?_)
set_option maxHeartbeats 8000000 in
set_option maxRecDepth 100000 in
theorem spec_l1Split.calls (k : Nat) (a0 : ByteArray) (a1 : Int) (r : List ByteArray) (w : World) (h : spec_l1Split.f k a0 a1 = some r) :
    Calls Tryd.prog 41 #[.string a0, .int .u8 a1] w fun e w' => ∃ v0_ : Value, e = .returned (v0_) ∧ Kd.R Kd.string 9 w' w.heap.size (fun _ => True) v0_ r ∧ Below w.heap.size w w' := by
  have HB := Aside0.mk (Below.refl w.heap.size w)
  have H : (spec_l1Split.l0 k a0 a1 (([] : List ByteArray)) 0 0) = some r := h
  clear h
  obtain ⟨y118, hy118⟩ : ∃ y_ : List ByteArray, y_ = (([] : List ByteArray)) := ⟨_, rfl⟩
  replace H : (spec_l1Split.l0 k a0 a1 y118 0 0) = some r := by first | (rw [hy118]; with_reducible exact H) | (have H2_ := (Option.bind_some _ _).symm.trans H; rw [hy118]; with_reducible exact H2_) | (have H2_ := (Option.bind_some _ _).symm.trans H; with_reducible exact H2_) | with_reducible exact H | (rw [hy118]; exact H) | exact H
  have Ny118 := Aside0.mk hy118
  clear hy118
  have H' := Aside0.mk H
  clear H
  go_enter Tryd.func41, Tryd.ntmps41
  go_wp2_with (first | ((with_reducible refine gate_dst (N := 8) rfl ?_); refine Kd.R_lit Kd.string _ 9 ?hg (N := 8) ?hd (xs := ([] : List ByteArray)) (inner := []) (ok := fun _ => True) (okp := fun _ => True) ?hr ?hp (fun _ hk => hk) trivial (Below.refl _ _) (Nat.le_refl _) (by simp) ?_; (case hd => rfl); (case hg => rfl); (case hr => first | (go_simp; done) | (go_simp; rfl)); (case hp => exact (Reps.none _ _)); intro v119 w3 ho4 hb hg_ hnew_; clear hg_ hnew_; (first | rw [← Ny118.out] at ho4 | (simp only [Int.reduceToNat] at ho4; rw [← Ny118.out] at ho4)); have n0_ := Aside0.mk (Kd.R_lower ho4 (below_size (by repeat (first | (with_reducible first | exact HB.out | apply below_alloc | apply pw_below_drewN | apply below_drew1) | exact HB.out)))); have n1_ := Aside0.mk (below_step (by repeat (first | (with_reducible first | exact HB.out | apply below_alloc | apply pw_below_drewN | apply below_drew1) | exact HB.out)) hb); clear HB; have HO120 := n0_; have HB := n1_; clear n0_ n1_; clear hb ho4))
  go_loopg [5, 6, 7] k (fun kq v5 v6 v7 w' => ∃ (x5_1 : List ByteArray) (x6_1 : Int) (x7_1 : Int), v6 = .int .i64 x6_1 ∧ v7 = .int .i64 x7_1 ∧ Aside0 (spec_l1Split.l0 kq a0 a1 x5_1 x6_1 x7_1 = some r) ∧ Aside0 (kq ≤ k) ∧ Aside0 (Kd.R Kd.string 9 w' w.heap.size (fun _ => True) v5 x5_1) ∧ Aside0 (Below w.heap.size w w'))
  case atStart => exact ⟨(y118), (0), (0), (by first | rfl | (simp; done) | (simp [*]; done)), (by first | rfl | (simp; done) | (simp [*]; done)), H', ⟨Nat.le_refl _⟩, ⟨by (with_reducible repeat (first | apply Kd.R_alloc | apply Kd.R_drewN | apply Kd.R_drew)); exact HO120.out⟩, ⟨by repeat (first | (with_reducible first | exact HB.out | apply below_alloc | apply pw_below_drewN | apply below_drew1) | exact HB.out)⟩⟩
  case round =>
    clear H'
    try clear p2
    try clear c4
    obtain ⟨x5_1, x6_1, x7_1, rfl, rfl, HA, HK1, HO_5, HB⟩ := hrel
    cases gk with
    | zero => exact absurd HA.out (by simp [spec_l1Split.l0])
    | succ k1 =>
      have H := HA.out
      clear HA
      simp only [spec_l1Split.l0] at H
      by_cases c5 : x7_1 < (a0.size : Int)
      · rw [if_pos c5] at H
        have c5b0 : decide (x7_1 < (a0.size : Int)) = true := decide_eq_true c5
        clear c5
        by_cases c6 : 0 ≤ x7_1
        · rw [if_pos c6] at H
          have c6b0 : decide (0 ≤ x7_1) = true := decide_eq_true c6
          clear c6
          by_cases c8 : (bt a0 x7_1) = a1
          · rw [if_pos c8] at H
            have c8b0 : ((bt a0 x7_1) == a1) = true := beq_iff_eq.mpr c8
            have c8b1 : ((bt a0 x7_1) != a1) = false := bne_eq_false_iff_eq.mpr c8
            clear c8
            by_cases c9 : 0 ≤ x6_1
            · rw [if_pos c9] at H
              have c9b0 := eq_true c9
              have c9b1 : decide (0 ≤ x6_1) = true := decide_eq_true c9
              clear c9
              by_cases c10 : x6_1 ≤ x7_1
              · rw [if_pos c10] at H
                have c10b0 := eq_true c10
                have c10b1 : decide (x6_1 ≤ x7_1) = true := decide_eq_true c10
                clear c10
                by_cases c11 : x7_1 ≤ (a0.size : Int)
                · rw [if_pos c11] at H
                  have c11b0 := eq_true c11
                  have c11b1 : decide (x7_1 ≤ (a0.size : Int)) = true := decide_eq_true c11
                  clear c11
                  by_cases c12 : x5_1.length < 8796093022208
                  · rw [if_pos c12] at H
                    have LMc12 := Aside0.mk c12
                    clear c12
                    obtain ⟨y121, hy121⟩ : ∃ y_ : List ByteArray, y_ = (x5_1 ++ [a0.extract (x6_1 : Int).toNat (x7_1 : Int).toNat]) := ⟨_, rfl⟩
                    replace H : (spec_l1Split.l0 k1 a0 a1 y121 (wrap64 (x7_1 + 1)) (wrap64 (x7_1 + 1))) = some r := by first | (rw [hy121]; with_reducible exact H) | (have H2_ := (Option.bind_some _ _).symm.trans H; rw [hy121]; with_reducible exact H2_) | (have H2_ := (Option.bind_some _ _).symm.trans H; with_reducible exact H2_) | with_reducible exact H | (rw [hy121]; exact H) | exact H
                    have Ny121 := Aside0.mk hy121
                    clear hy121
                    have H' := Aside0.mk H
                    clear H
                    have p7 : 0 ≤ (x7_1 : Int) := of_decide_eq_true (by first | (with_reducible assumption) | assumption)
                    have q7 : x7_1 < (a0.size : Int) := of_decide_eq_true (by first | (with_reducible assumption) | assumption)
                    have hx7 := bt_at a0 x7_1
                    replace p7 := eq_true p7
                    replace q7 := eq_true q7
                    go_wp2_with (first | ((with_reducible refine gate_builtin (b := .append) (xs := #[.tmp 20, .tmp 25]) rfl ?_); at_builtin; refine Kd.R_append Kd.string (w0 := w) w.heap.size rfl (.tmp 20) (.tmp 25) 51 9 (.string ⟨#[]⟩) 16 rfl Tryd.underlying51 info9 rfl (by decide) (by omega) u5 x5_1 (a0.extract (x6_1 : Int).toNat (x7_1 : Int).toNat) [.string (a0.extract (x6_1 : Int).toNat (x7_1 : Int).toNat)] (fun _ => True) (fun _ => False) rfl rfl ?aP (fun _ hk => hk.elim) ?aF ?aO ?aB ?aS ?aL ?_; (case aP => exact rfl); (case aB => exact (by repeat (first | (with_reducible first | exact HB.out | apply below_alloc | apply pw_below_drewN | apply below_drew1) | exact HB.out))); (case aF => exact (fun _ _ => trivial)); (case aO => exact (by (with_reducible repeat (first | apply Kd.R_alloc | apply Kd.R_drewN | apply Kd.R_drew)); exact HO_5.out)); (case aS => exact (below_size (by repeat (first | (with_reducible first | exact HB.out | apply below_alloc | apply pw_below_drewN | apply below_drew1) | exact HB.out)))); (case aL => have := LMc12.out; omega); intro v122 w13 ho hb hg hat; rw [← Ny121.out] at ho; have n0_ := Aside0.mk (hb); have n1_ := Aside0.mk (ho); clear HB; clear HO_5; have HB := n0_; have HO123 := n1_; clear n0_ n1_; clear ho hb hg hat))
                    go_roundg k1
                    case measure => have := HK1.out; omega
                    case rel => exact ⟨(y121), (wrap64 (x7_1 + 1)), (wrap64 (x7_1 + 1)), (by first | rfl | (simp; done) | (simp [*]; done)), (by first | rfl | (simp; done) | (simp [*]; done)), H', ⟨by have := HK1.out; omega⟩, ⟨by (with_reducible repeat (first | apply Kd.R_alloc | apply Kd.R_drewN | apply Kd.R_drew)); exact HO123.out⟩, ⟨by repeat (first | (with_reducible first | exact HB.out | apply below_alloc | apply pw_below_drewN | apply below_drew1) | exact HB.out)⟩⟩
                  · rw [if_neg c12] at H
                    exact absurd H (by simp)
                · rw [if_neg c11] at H
                  exact absurd H (by simp)
              · rw [if_neg c10] at H
                exact absurd H (by simp)
            · rw [if_neg c9] at H
              exact absurd H (by simp)
          · rw [if_neg c8] at H
            have c8b0 : ((bt a0 x7_1) == a1) = false := beq_eq_false_iff_ne.mpr c8
            have c8b1 : ((bt a0 x7_1) != a1) = true := bne_iff_ne.mpr c8
            have H' := Aside0.mk H
            clear H
            have p7 : 0 ≤ (x7_1 : Int) := of_decide_eq_true (by first | (with_reducible assumption) | assumption)
            have q7 : x7_1 < (a0.size : Int) := of_decide_eq_true (by first | (with_reducible assumption) | assumption)
            have hx7 := bt_at a0 x7_1
            replace p7 := eq_true p7
            replace q7 := eq_true q7
            go_wp2
            go_roundg k1
            case measure => have := HK1.out; omega
            case rel => exact ⟨(x5_1), (x6_1), (wrap64 (x7_1 + 1)), (by first | rfl | (simp; done) | (simp [*]; done)), (by first | rfl | (simp; done) | (simp [*]; done)), H', ⟨by have := HK1.out; omega⟩, ⟨by (with_reducible repeat (first | apply Kd.R_alloc | apply Kd.R_drewN | apply Kd.R_drew)); exact HO_5.out⟩, ⟨by repeat (first | (with_reducible first | exact HB.out | apply below_alloc | apply pw_below_drewN | apply below_drew1) | exact HB.out)⟩⟩
        · rw [if_neg c6] at H
          exact absurd H (by simp)
      · rw [if_neg c5] at H
        have c5b0 : decide (x7_1 < (a0.size : Int)) = false := decide_eq_false c5
        clear c5
        by_cases c14 : 0 ≤ x6_1
        · rw [if_pos c14] at H
          have c14b0 := eq_true c14
          have c14b1 : decide (0 ≤ x6_1) = true := decide_eq_true c14
          clear c14
          by_cases c15 : x6_1 ≤ (a0.size : Int)
          · rw [if_pos c15] at H
            have c15b0 := eq_true c15
            have c15b1 : decide (x6_1 ≤ (a0.size : Int)) = true := decide_eq_true c15
            clear c15
            by_cases c16 : x5_1.length < 8796093022208
            · rw [if_pos c16] at H
              have LMc16 := Aside0.mk c16
              clear c16
              obtain ⟨y124, hy124⟩ : ∃ y_ : List ByteArray, y_ = (x5_1 ++ [a0.extract (x6_1 : Int).toNat a0.size]) := ⟨_, rfl⟩
              replace H : (some y124) = some r := by first | (rw [hy124]; with_reducible exact H) | (have H2_ := (Option.bind_some _ _).symm.trans H; rw [hy124]; with_reducible exact H2_) | (have H2_ := (Option.bind_some _ _).symm.trans H; with_reducible exact H2_) | with_reducible exact H | (rw [hy124]; exact H) | exact H
              have Ny124 := Aside0.mk hy124
              clear hy124
              obtain rfl := Option.some.inj H
              go_wp2_with (first | ((with_reducible refine gate_builtin (b := .append) (xs := #[.tmp 29, .tmp 33]) rfl ?_); at_builtin; refine Kd.R_append Kd.string (w0 := w) w.heap.size rfl (.tmp 29) (.tmp 33) 51 9 (.string ⟨#[]⟩) 16 rfl Tryd.underlying51 info9 rfl (by decide) (by omega) u5 x5_1 (a0.extract (x6_1 : Int).toNat a0.size) [.string (a0.extract (x6_1 : Int).toNat a0.size)] (fun _ => True) (fun _ => False) rfl rfl ?aP (fun _ hk => hk.elim) ?aF ?aO ?aB ?aS ?aL ?_; (case aP => exact rfl); (case aB => exact (by repeat (first | (with_reducible first | exact HB.out | apply below_alloc | apply pw_below_drewN | apply below_drew1) | exact HB.out))); (case aF => exact (fun _ _ => trivial)); (case aO => exact (by (with_reducible repeat (first | apply Kd.R_alloc | apply Kd.R_drewN | apply Kd.R_drew)); exact HO_5.out)); (case aS => exact (below_size (by repeat (first | (with_reducible first | exact HB.out | apply below_alloc | apply pw_below_drewN | apply below_drew1) | exact HB.out)))); (case aL => have := LMc16.out; omega); intro v125 w17 ho hb hg hat; rw [← Ny124.out] at ho; have n0_ := Aside0.mk (hb); have n1_ := Aside0.mk (ho); clear HB; clear HO_5; have HB := n0_; have HO126 := n1_; clear n0_ n1_; clear ho hb hg hat))
              go_ret
              exact ⟨_, by first | rfl | (simp [errW_none, errW_some] <;> rfl) | (simp [*, errW_none, errW_some] <;> rfl), by (with_reducible repeat (first | apply Kd.R_alloc | apply Kd.R_drewN | apply Kd.R_drew)); exact HO126.out, by repeat (first | (with_reducible first | exact HB.out | apply below_alloc | apply pw_below_drewN | apply below_drew1) | exact HB.out)⟩
            · rw [if_neg c16] at H
              exact absurd H (by simp)
          · rw [if_neg c15] at H
            exact absurd H (by simp)
        · rw [if_neg c14] at H
          exact absurd H (by simp)

end Go.Proofs.YtcmccjiimiomhaaDoor.XFnExactParseLeg
