/- Contracts of the functions that the law FnExactLegText comes to: each is told as a plain function of its arguments, and the machine's call does what that function says; no condition. Written by programs (print.py, xprint.py); Lean checks it. -/
import Derived.Test.YtcmccjiimiomhaaDoorXFnExactLegTextx0
import Derived.Test.YtcmccjiimiomhaaDoorXFnExactLegTextx1
namespace Go.Proofs.YtcmccjiimiomhaaDoor.XFnExactLegText
open Go.RowKit Go.Proofs.YtcmccjiimiomhaaDoorW.PrintWords Go.Proofs.YtcmccjiimiomhaaDoorW.PrintLast Go.Proofs.YtcmccjiimiomhaaDoorW.PrintMore
attribute [local go_sem] max2_int min2_int max_two min_two max_three min_three max_four min_four   -- for this text's walks alone
set_option linter.unusedVariables false
set_option linter.unusedSimpArgs false

/-! ### spec_l4Text: function 34 -/
def spec_l4Text.f (k : Nat) (a0_0 : Int) (a0_1 : Int) (a0_2 : Int) (a0_3 : Int) (a0_4 : Int) : Option (ByteArray) := (spec_l1Num.f k a0_0).bind fun t112 => (if 4 + t112.size ≤ 9223372036854775807 then (if ((⟨#[108, 101, 103, 32]⟩ : ByteArray) ++ t112).size + 1 ≤ 9223372036854775807 then ((spec_l1Num.f k a0_1).bind fun t113 => (if (((⟨#[108, 101, 103, 32]⟩ : ByteArray) ++ t112) ++ (⟨#[45]⟩ : ByteArray)).size + t113.size ≤ 9223372036854775807 then (if ((((⟨#[108, 101, 103, 32]⟩ : ByteArray) ++ t112) ++ (⟨#[45]⟩ : ByteArray)) ++ t113).size + 6 ≤ 9223372036854775807 then ((spec_l1Num.f k a0_2).bind fun t114 => (if (((((⟨#[108, 101, 103, 32]⟩ : ByteArray) ++ t112) ++ (⟨#[45]⟩ : ByteArray)) ++ t113) ++ (⟨#[32, 116, 97, 112, 101, 32]⟩ : ByteArray)).size + t114.size ≤ 9223372036854775807 then (if ((((((⟨#[108, 101, 103, 32]⟩ : ByteArray) ++ t112) ++ (⟨#[45]⟩ : ByteArray)) ++ t113) ++ (⟨#[32, 116, 97, 112, 101, 32]⟩ : ByteArray)) ++ t114).size + 9 ≤ 9223372036854775807 then ((spec_l1Num.f k a0_3).bind fun t115 => (if (((((((⟨#[108, 101, 103, 32]⟩ : ByteArray) ++ t112) ++ (⟨#[45]⟩ : ByteArray)) ++ t113) ++ (⟨#[32, 116, 97, 112, 101, 32]⟩ : ByteArray)) ++ t114) ++ (⟨#[32, 99, 111, 109, 112, 97, 115, 115, 32]⟩ : ByteArray)).size + t115.size ≤ 9223372036854775807 then (if ((((((((⟨#[108, 101, 103, 32]⟩ : ByteArray) ++ t112) ++ (⟨#[45]⟩ : ByteArray)) ++ t113) ++ (⟨#[32, 116, 97, 112, 101, 32]⟩ : ByteArray)) ++ t114) ++ (⟨#[32, 99, 111, 109, 112, 97, 115, 115, 32]⟩ : ByteArray)) ++ t115).size + 7 ≤ 9223372036854775807 then (if a0_4 < 0 then (if (((((((((⟨#[108, 101, 103, 32]⟩ : ByteArray) ++ t112) ++ (⟨#[45]⟩ : ByteArray)) ++ t113) ++ (⟨#[32, 116, 97, 112, 101, 32]⟩ : ByteArray)) ++ t114) ++ (⟨#[32, 99, 111, 109, 112, 97, 115, 115, 32]⟩ : ByteArray)) ++ t115) ++ (⟨#[32, 115, 108, 111, 112, 101, 32]⟩ : ByteArray)).size + 1 ≤ 9223372036854775807 then ((spec_l1Num.f k (wrap64 (-a0_4))).bind fun t116 => (if ((((((((((⟨#[108, 101, 103, 32]⟩ : ByteArray) ++ t112) ++ (⟨#[45]⟩ : ByteArray)) ++ t113) ++ (⟨#[32, 116, 97, 112, 101, 32]⟩ : ByteArray)) ++ t114) ++ (⟨#[32, 99, 111, 109, 112, 97, 115, 115, 32]⟩ : ByteArray)) ++ t115) ++ (⟨#[32, 115, 108, 111, 112, 101, 32]⟩ : ByteArray)) ++ (⟨#[45]⟩ : ByteArray)).size + t116.size ≤ 9223372036854775807 then (some (((((((((((⟨#[108, 101, 103, 32]⟩ : ByteArray) ++ t112) ++ (⟨#[45]⟩ : ByteArray)) ++ t113) ++ (⟨#[32, 116, 97, 112, 101, 32]⟩ : ByteArray)) ++ t114) ++ (⟨#[32, 99, 111, 109, 112, 97, 115, 115, 32]⟩ : ByteArray)) ++ t115) ++ (⟨#[32, 115, 108, 111, 112, 101, 32]⟩ : ByteArray)) ++ (⟨#[45]⟩ : ByteArray)) ++ t116)) else (none))) else (none)) else ((spec_l1Num.f k a0_4).bind fun t117 => (if (((((((((⟨#[108, 101, 103, 32]⟩ : ByteArray) ++ t112) ++ (⟨#[45]⟩ : ByteArray)) ++ t113) ++ (⟨#[32, 116, 97, 112, 101, 32]⟩ : ByteArray)) ++ t114) ++ (⟨#[32, 99, 111, 109, 112, 97, 115, 115, 32]⟩ : ByteArray)) ++ t115) ++ (⟨#[32, 115, 108, 111, 112, 101, 32]⟩ : ByteArray)).size + t117.size ≤ 9223372036854775807 then (some ((((((((((⟨#[108, 101, 103, 32]⟩ : ByteArray) ++ t112) ++ (⟨#[45]⟩ : ByteArray)) ++ t113) ++ (⟨#[32, 116, 97, 112, 101, 32]⟩ : ByteArray)) ++ t114) ++ (⟨#[32, 99, 111, 109, 112, 97, 115, 115, 32]⟩ : ByteArray)) ++ t115) ++ (⟨#[32, 115, 108, 111, 112, 101, 32]⟩ : ByteArray)) ++ t117)) else (none)))) else (none)) else (none))) else (none)) else (none))) else (none)) else (none))) else (none)) else (none))
theorem spec_l4Text.mono : ∀ a0 a1 a2 a3 a4 k, LeO (spec_l4Text.f k a0 a1 a2 a3 a4) (spec_l4Text.f (k + 1) a0 a1 a2 a3 a4) := by
  intro a0 a1 a2 a3 a4 k
  unfold spec_l4Text.f
  repeat' first
      | (with_reducible exact spec_l1Num.mono _ _)
      | (with_reducible exact LeO.refl _)
      | (with_reducible exact LeO.none _)
      | (with_reducible refine LeO.ite ?_ ?_)
      | (with_reducible refine LeO.bind ?_ (fun _ => ?_))
      | exact spec_l1Num.mono _ _
      | exact LeO.none _
      | refine LeO.ite ?_ ?_
      | refine LeO.bind ?_ (fun _ => ?_)
def spec_l4Text.T1 : Bool × List (List Nat × List Nat) := (true, [([], []), ([0], [0]), ([1], [1]), ([2], [2]), ([3], [3]), ([], []), ([5], [5]), ([6, 2], [6]), ([4, 7], [4, 7]), ([8], [8]), ([], []), ([10], [10]), ([11, 7], [11]), ([9, 12], [9, 12]), ([13], [13]), ([], []), ([15], [15]), ([16, 12], [16]), ([14, 17], [14, 17]), ([18], [18]), ([19, 17, 0, 1, 2, 3, 4, 5, 6, 7, 8, 9, 10, 11, 12, 13, 14, 15, 16, 17, 18, 19], [19])])
def spec_l4Text.B1 : List Nat := [0, 1, 3, 7, 15, 0, 32, 103, 255, 511, 0, 1024, 3303, 8191, 16383, 0, 32768, 105703, 262143, 524287, 1048575]
theorem spec_l4Text.tab1 : rtab .any (opsOf Tryd.f34 1) = spec_l4Text.T1 := by kernel_rfl
theorem spec_l4Text.bits1 : waitsOk spec_l4Text.T1.2 spec_l4Text.B1 = true := by kernel_rfl
set_option maxHeartbeats 8000000 in
set_option maxRecDepth 100000 in
theorem spec_l4Text.calls (k : Nat) (a0_0 : Int) (a0_1 : Int) (a0_2 : Int) (a0_3 : Int) (a0_4 : Int) (r : ByteArray) (w : World) (h : spec_l4Text.f k a0_0 a0_1 a0_2 a0_3 a0_4 = some r) :
    Calls Tryd.prog 34 #[.agg #[.int .i64 a0_0, .int .i64 a0_1, .int .i64 a0_2, .int .i64 a0_3, .int .i64 a0_4]] w fun e w' => e = .returned (.string r) ∧ Below w.heap.size w w' := by
  have hu28 := Tryd.underlying28
  have HB := Aside0.mk (Below.refl w.heap.size w)
  have H : ((spec_l1Num.f k a0_0).bind fun t112 => (if 4 + t112.size ≤ 9223372036854775807 then (if ((⟨#[108, 101, 103, 32]⟩ : ByteArray) ++ t112).size + 1 ≤ 9223372036854775807 then ((spec_l1Num.f k a0_1).bind fun t113 => (if (((⟨#[108, 101, 103, 32]⟩ : ByteArray) ++ t112) ++ (⟨#[45]⟩ : ByteArray)).size + t113.size ≤ 9223372036854775807 then (if ((((⟨#[108, 101, 103, 32]⟩ : ByteArray) ++ t112) ++ (⟨#[45]⟩ : ByteArray)) ++ t113).size + 6 ≤ 9223372036854775807 then ((spec_l1Num.f k a0_2).bind fun t114 => (if (((((⟨#[108, 101, 103, 32]⟩ : ByteArray) ++ t112) ++ (⟨#[45]⟩ : ByteArray)) ++ t113) ++ (⟨#[32, 116, 97, 112, 101, 32]⟩ : ByteArray)).size + t114.size ≤ 9223372036854775807 then (if ((((((⟨#[108, 101, 103, 32]⟩ : ByteArray) ++ t112) ++ (⟨#[45]⟩ : ByteArray)) ++ t113) ++ (⟨#[32, 116, 97, 112, 101, 32]⟩ : ByteArray)) ++ t114).size + 9 ≤ 9223372036854775807 then ((spec_l1Num.f k a0_3).bind fun t115 => (if (((((((⟨#[108, 101, 103, 32]⟩ : ByteArray) ++ t112) ++ (⟨#[45]⟩ : ByteArray)) ++ t113) ++ (⟨#[32, 116, 97, 112, 101, 32]⟩ : ByteArray)) ++ t114) ++ (⟨#[32, 99, 111, 109, 112, 97, 115, 115, 32]⟩ : ByteArray)).size + t115.size ≤ 9223372036854775807 then (if ((((((((⟨#[108, 101, 103, 32]⟩ : ByteArray) ++ t112) ++ (⟨#[45]⟩ : ByteArray)) ++ t113) ++ (⟨#[32, 116, 97, 112, 101, 32]⟩ : ByteArray)) ++ t114) ++ (⟨#[32, 99, 111, 109, 112, 97, 115, 115, 32]⟩ : ByteArray)) ++ t115).size + 7 ≤ 9223372036854775807 then (if a0_4 < 0 then (if (((((((((⟨#[108, 101, 103, 32]⟩ : ByteArray) ++ t112) ++ (⟨#[45]⟩ : ByteArray)) ++ t113) ++ (⟨#[32, 116, 97, 112, 101, 32]⟩ : ByteArray)) ++ t114) ++ (⟨#[32, 99, 111, 109, 112, 97, 115, 115, 32]⟩ : ByteArray)) ++ t115) ++ (⟨#[32, 115, 108, 111, 112, 101, 32]⟩ : ByteArray)).size + 1 ≤ 9223372036854775807 then ((spec_l1Num.f k (wrap64 (-a0_4))).bind fun t116 => (if ((((((((((⟨#[108, 101, 103, 32]⟩ : ByteArray) ++ t112) ++ (⟨#[45]⟩ : ByteArray)) ++ t113) ++ (⟨#[32, 116, 97, 112, 101, 32]⟩ : ByteArray)) ++ t114) ++ (⟨#[32, 99, 111, 109, 112, 97, 115, 115, 32]⟩ : ByteArray)) ++ t115) ++ (⟨#[32, 115, 108, 111, 112, 101, 32]⟩ : ByteArray)) ++ (⟨#[45]⟩ : ByteArray)).size + t116.size ≤ 9223372036854775807 then (some (((((((((((⟨#[108, 101, 103, 32]⟩ : ByteArray) ++ t112) ++ (⟨#[45]⟩ : ByteArray)) ++ t113) ++ (⟨#[32, 116, 97, 112, 101, 32]⟩ : ByteArray)) ++ t114) ++ (⟨#[32, 99, 111, 109, 112, 97, 115, 115, 32]⟩ : ByteArray)) ++ t115) ++ (⟨#[32, 115, 108, 111, 112, 101, 32]⟩ : ByteArray)) ++ (⟨#[45]⟩ : ByteArray)) ++ t116)) else (none))) else (none)) else ((spec_l1Num.f k a0_4).bind fun t117 => (if (((((((((⟨#[108, 101, 103, 32]⟩ : ByteArray) ++ t112) ++ (⟨#[45]⟩ : ByteArray)) ++ t113) ++ (⟨#[32, 116, 97, 112, 101, 32]⟩ : ByteArray)) ++ t114) ++ (⟨#[32, 99, 111, 109, 112, 97, 115, 115, 32]⟩ : ByteArray)) ++ t115) ++ (⟨#[32, 115, 108, 111, 112, 101, 32]⟩ : ByteArray)).size + t117.size ≤ 9223372036854775807 then (some ((((((((((⟨#[108, 101, 103, 32]⟩ : ByteArray) ++ t112) ++ (⟨#[45]⟩ : ByteArray)) ++ t113) ++ (⟨#[32, 116, 97, 112, 101, 32]⟩ : ByteArray)) ++ t114) ++ (⟨#[32, 99, 111, 109, 112, 97, 115, 115, 32]⟩ : ByteArray)) ++ t115) ++ (⟨#[32, 115, 108, 111, 112, 101, 32]⟩ : ByteArray)) ++ t117)) else (none)))) else (none)) else (none))) else (none)) else (none))) else (none)) else (none))) else (none)) else (none))) = some r := h
  clear h
  replace H := Option.bind_eq_some_iff.mp H
  obtain ⟨t112, A20, H⟩ := H
  replace H : (if 4 + t112.size ≤ 9223372036854775807 then (if ((⟨#[108, 101, 103, 32]⟩ : ByteArray) ++ t112).size + 1 ≤ 9223372036854775807 then ((spec_l1Num.f k a0_1).bind fun t113 => (if (((⟨#[108, 101, 103, 32]⟩ : ByteArray) ++ t112) ++ (⟨#[45]⟩ : ByteArray)).size + t113.size ≤ 9223372036854775807 then (if ((((⟨#[108, 101, 103, 32]⟩ : ByteArray) ++ t112) ++ (⟨#[45]⟩ : ByteArray)) ++ t113).size + 6 ≤ 9223372036854775807 then ((spec_l1Num.f k a0_2).bind fun t114 => (if (((((⟨#[108, 101, 103, 32]⟩ : ByteArray) ++ t112) ++ (⟨#[45]⟩ : ByteArray)) ++ t113) ++ (⟨#[32, 116, 97, 112, 101, 32]⟩ : ByteArray)).size + t114.size ≤ 9223372036854775807 then (if ((((((⟨#[108, 101, 103, 32]⟩ : ByteArray) ++ t112) ++ (⟨#[45]⟩ : ByteArray)) ++ t113) ++ (⟨#[32, 116, 97, 112, 101, 32]⟩ : ByteArray)) ++ t114).size + 9 ≤ 9223372036854775807 then ((spec_l1Num.f k a0_3).bind fun t115 => (if (((((((⟨#[108, 101, 103, 32]⟩ : ByteArray) ++ t112) ++ (⟨#[45]⟩ : ByteArray)) ++ t113) ++ (⟨#[32, 116, 97, 112, 101, 32]⟩ : ByteArray)) ++ t114) ++ (⟨#[32, 99, 111, 109, 112, 97, 115, 115, 32]⟩ : ByteArray)).size + t115.size ≤ 9223372036854775807 then (if ((((((((⟨#[108, 101, 103, 32]⟩ : ByteArray) ++ t112) ++ (⟨#[45]⟩ : ByteArray)) ++ t113) ++ (⟨#[32, 116, 97, 112, 101, 32]⟩ : ByteArray)) ++ t114) ++ (⟨#[32, 99, 111, 109, 112, 97, 115, 115, 32]⟩ : ByteArray)) ++ t115).size + 7 ≤ 9223372036854775807 then (if a0_4 < 0 then (if (((((((((⟨#[108, 101, 103, 32]⟩ : ByteArray) ++ t112) ++ (⟨#[45]⟩ : ByteArray)) ++ t113) ++ (⟨#[32, 116, 97, 112, 101, 32]⟩ : ByteArray)) ++ t114) ++ (⟨#[32, 99, 111, 109, 112, 97, 115, 115, 32]⟩ : ByteArray)) ++ t115) ++ (⟨#[32, 115, 108, 111, 112, 101, 32]⟩ : ByteArray)).size + 1 ≤ 9223372036854775807 then ((spec_l1Num.f k (wrap64 (-a0_4))).bind fun t116 => (if ((((((((((⟨#[108, 101, 103, 32]⟩ : ByteArray) ++ t112) ++ (⟨#[45]⟩ : ByteArray)) ++ t113) ++ (⟨#[32, 116, 97, 112, 101, 32]⟩ : ByteArray)) ++ t114) ++ (⟨#[32, 99, 111, 109, 112, 97, 115, 115, 32]⟩ : ByteArray)) ++ t115) ++ (⟨#[32, 115, 108, 111, 112, 101, 32]⟩ : ByteArray)) ++ (⟨#[45]⟩ : ByteArray)).size + t116.size ≤ 9223372036854775807 then (some (((((((((((⟨#[108, 101, 103, 32]⟩ : ByteArray) ++ t112) ++ (⟨#[45]⟩ : ByteArray)) ++ t113) ++ (⟨#[32, 116, 97, 112, 101, 32]⟩ : ByteArray)) ++ t114) ++ (⟨#[32, 99, 111, 109, 112, 97, 115, 115, 32]⟩ : ByteArray)) ++ t115) ++ (⟨#[32, 115, 108, 111, 112, 101, 32]⟩ : ByteArray)) ++ (⟨#[45]⟩ : ByteArray)) ++ t116)) else (none))) else (none)) else ((spec_l1Num.f k a0_4).bind fun t117 => (if (((((((((⟨#[108, 101, 103, 32]⟩ : ByteArray) ++ t112) ++ (⟨#[45]⟩ : ByteArray)) ++ t113) ++ (⟨#[32, 116, 97, 112, 101, 32]⟩ : ByteArray)) ++ t114) ++ (⟨#[32, 99, 111, 109, 112, 97, 115, 115, 32]⟩ : ByteArray)) ++ t115) ++ (⟨#[32, 115, 108, 111, 112, 101, 32]⟩ : ByteArray)).size + t117.size ≤ 9223372036854775807 then (some ((((((((((⟨#[108, 101, 103, 32]⟩ : ByteArray) ++ t112) ++ (⟨#[45]⟩ : ByteArray)) ++ t113) ++ (⟨#[32, 116, 97, 112, 101, 32]⟩ : ByteArray)) ++ t114) ++ (⟨#[32, 99, 111, 109, 112, 97, 115, 115, 32]⟩ : ByteArray)) ++ t115) ++ (⟨#[32, 115, 108, 111, 112, 101, 32]⟩ : ByteArray)) ++ t117)) else (none)))) else (none)) else (none))) else (none)) else (none))) else (none)) else (none))) else (none)) else (none)) = some r := H
  have A2 := Aside0.mk A20
  clear A20
  by_cases c3 : 4 + t112.size ≤ 9223372036854775807
  · rw [if_pos c3] at H
    have c3b0 := eq_true c3
    have c3b1 : decide (4 + t112.size ≤ 9223372036854775807) = true := decide_eq_true c3
    try have c3b2 : (9223372036854775807 < 4 + t112.size) = False := eq_false (Nat.not_lt.2 c3)
    by_cases c4 : ((⟨#[108, 101, 103, 32]⟩ : ByteArray) ++ t112).size + 1 ≤ 9223372036854775807
    · rw [if_pos c4] at H
      have c4b0 := eq_true c4
      have c4b1 : decide (((⟨#[108, 101, 103, 32]⟩ : ByteArray) ++ t112).size + 1 ≤ 9223372036854775807) = true := decide_eq_true c4
      try have c4b2 : (9223372036854775807 < ((⟨#[108, 101, 103, 32]⟩ : ByteArray) ++ t112).size + 1) = False := eq_false (Nat.not_lt.2 c4)
      (try have c4b6 : (9223372036854775807 < 4 + t112.size + 1) = False := eq_false (by have h_ := c4; have hz0_ : (⟨#[108, 101, 103, 32]⟩ : ByteArray).size = 4 := rfl; simp only [ByteArray.size_append, hz0_] at h_; omega))
      replace H := Option.bind_eq_some_iff.mp H
      obtain ⟨t113, A50, H⟩ := H
      replace H : (if (((⟨#[108, 101, 103, 32]⟩ : ByteArray) ++ t112) ++ (⟨#[45]⟩ : ByteArray)).size + t113.size ≤ 9223372036854775807 then (if ((((⟨#[108, 101, 103, 32]⟩ : ByteArray) ++ t112) ++ (⟨#[45]⟩ : ByteArray)) ++ t113).size + 6 ≤ 9223372036854775807 then ((spec_l1Num.f k a0_2).bind fun t114 => (if (((((⟨#[108, 101, 103, 32]⟩ : ByteArray) ++ t112) ++ (⟨#[45]⟩ : ByteArray)) ++ t113) ++ (⟨#[32, 116, 97, 112, 101, 32]⟩ : ByteArray)).size + t114.size ≤ 9223372036854775807 then (if ((((((⟨#[108, 101, 103, 32]⟩ : ByteArray) ++ t112) ++ (⟨#[45]⟩ : ByteArray)) ++ t113) ++ (⟨#[32, 116, 97, 112, 101, 32]⟩ : ByteArray)) ++ t114).size + 9 ≤ 9223372036854775807 then ((spec_l1Num.f k a0_3).bind fun t115 => (if (((((((⟨#[108, 101, 103, 32]⟩ : ByteArray) ++ t112) ++ (⟨#[45]⟩ : ByteArray)) ++ t113) ++ (⟨#[32, 116, 97, 112, 101, 32]⟩ : ByteArray)) ++ t114) ++ (⟨#[32, 99, 111, 109, 112, 97, 115, 115, 32]⟩ : ByteArray)).size + t115.size ≤ 9223372036854775807 then (if ((((((((⟨#[108, 101, 103, 32]⟩ : ByteArray) ++ t112) ++ (⟨#[45]⟩ : ByteArray)) ++ t113) ++ (⟨#[32, 116, 97, 112, 101, 32]⟩ : ByteArray)) ++ t114) ++ (⟨#[32, 99, 111, 109, 112, 97, 115, 115, 32]⟩ : ByteArray)) ++ t115).size + 7 ≤ 9223372036854775807 then (if a0_4 < 0 then (if (((((((((⟨#[108, 101, 103, 32]⟩ : ByteArray) ++ t112) ++ (⟨#[45]⟩ : ByteArray)) ++ t113) ++ (⟨#[32, 116, 97, 112, 101, 32]⟩ : ByteArray)) ++ t114) ++ (⟨#[32, 99, 111, 109, 112, 97, 115, 115, 32]⟩ : ByteArray)) ++ t115) ++ (⟨#[32, 115, 108, 111, 112, 101, 32]⟩ : ByteArray)).size + 1 ≤ 9223372036854775807 then ((spec_l1Num.f k (wrap64 (-a0_4))).bind fun t116 => (if ((((((((((⟨#[108, 101, 103, 32]⟩ : ByteArray) ++ t112) ++ (⟨#[45]⟩ : ByteArray)) ++ t113) ++ (⟨#[32, 116, 97, 112, 101, 32]⟩ : ByteArray)) ++ t114) ++ (⟨#[32, 99, 111, 109, 112, 97, 115, 115, 32]⟩ : ByteArray)) ++ t115) ++ (⟨#[32, 115, 108, 111, 112, 101, 32]⟩ : ByteArray)) ++ (⟨#[45]⟩ : ByteArray)).size + t116.size ≤ 9223372036854775807 then (some (((((((((((⟨#[108, 101, 103, 32]⟩ : ByteArray) ++ t112) ++ (⟨#[45]⟩ : ByteArray)) ++ t113) ++ (⟨#[32, 116, 97, 112, 101, 32]⟩ : ByteArray)) ++ t114) ++ (⟨#[32, 99, 111, 109, 112, 97, 115, 115, 32]⟩ : ByteArray)) ++ t115) ++ (⟨#[32, 115, 108, 111, 112, 101, 32]⟩ : ByteArray)) ++ (⟨#[45]⟩ : ByteArray)) ++ t116)) else (none))) else (none)) else ((spec_l1Num.f k a0_4).bind fun t117 => (if (((((((((⟨#[108, 101, 103, 32]⟩ : ByteArray) ++ t112) ++ (⟨#[45]⟩ : ByteArray)) ++ t113) ++ (⟨#[32, 116, 97, 112, 101, 32]⟩ : ByteArray)) ++ t114) ++ (⟨#[32, 99, 111, 109, 112, 97, 115, 115, 32]⟩ : ByteArray)) ++ t115) ++ (⟨#[32, 115, 108, 111, 112, 101, 32]⟩ : ByteArray)).size + t117.size ≤ 9223372036854775807 then (some ((((((((((⟨#[108, 101, 103, 32]⟩ : ByteArray) ++ t112) ++ (⟨#[45]⟩ : ByteArray)) ++ t113) ++ (⟨#[32, 116, 97, 112, 101, 32]⟩ : ByteArray)) ++ t114) ++ (⟨#[32, 99, 111, 109, 112, 97, 115, 115, 32]⟩ : ByteArray)) ++ t115) ++ (⟨#[32, 115, 108, 111, 112, 101, 32]⟩ : ByteArray)) ++ t117)) else (none)))) else (none)) else (none))) else (none)) else (none))) else (none)) else (none)) = some r := H
      have A5 := Aside0.mk A50
      clear A50
      by_cases c6 : (((⟨#[108, 101, 103, 32]⟩ : ByteArray) ++ t112) ++ (⟨#[45]⟩ : ByteArray)).size + t113.size ≤ 9223372036854775807
      · rw [if_pos c6] at H
        have c6b0 := eq_true c6
        have c6b1 : decide ((((⟨#[108, 101, 103, 32]⟩ : ByteArray) ++ t112) ++ (⟨#[45]⟩ : ByteArray)).size + t113.size ≤ 9223372036854775807) = true := decide_eq_true c6
        try have c6b2 : (9223372036854775807 < (((⟨#[108, 101, 103, 32]⟩ : ByteArray) ++ t112) ++ (⟨#[45]⟩ : ByteArray)).size + t113.size) = False := eq_false (Nat.not_lt.2 c6)
        (try have c6b6 : (9223372036854775807 < 4 + t112.size + 1 + t113.size) = False := eq_false (by have h_ := c6; have hz0_ : (⟨#[108, 101, 103, 32]⟩ : ByteArray).size = 4 := rfl; have hz1_ : (⟨#[45]⟩ : ByteArray).size = 1 := rfl; simp only [ByteArray.size_append, hz0_, hz1_] at h_; omega))
        by_cases c7 : ((((⟨#[108, 101, 103, 32]⟩ : ByteArray) ++ t112) ++ (⟨#[45]⟩ : ByteArray)) ++ t113).size + 6 ≤ 9223372036854775807
        · rw [if_pos c7] at H
          have c7b0 := eq_true c7
          have c7b1 : decide (((((⟨#[108, 101, 103, 32]⟩ : ByteArray) ++ t112) ++ (⟨#[45]⟩ : ByteArray)) ++ t113).size + 6 ≤ 9223372036854775807) = true := decide_eq_true c7
          try have c7b2 : (9223372036854775807 < ((((⟨#[108, 101, 103, 32]⟩ : ByteArray) ++ t112) ++ (⟨#[45]⟩ : ByteArray)) ++ t113).size + 6) = False := eq_false (Nat.not_lt.2 c7)
          (try have c7b6 : (9223372036854775807 < 4 + t112.size + 1 + t113.size + 6) = False := eq_false (by have h_ := c7; have hz0_ : (⟨#[108, 101, 103, 32]⟩ : ByteArray).size = 4 := rfl; have hz1_ : (⟨#[45]⟩ : ByteArray).size = 1 := rfl; simp only [ByteArray.size_append, hz0_, hz1_] at h_; omega))
          replace H := Option.bind_eq_some_iff.mp H
          obtain ⟨t114, A80, H⟩ := H
          replace H : (if (((((⟨#[108, 101, 103, 32]⟩ : ByteArray) ++ t112) ++ (⟨#[45]⟩ : ByteArray)) ++ t113) ++ (⟨#[32, 116, 97, 112, 101, 32]⟩ : ByteArray)).size + t114.size ≤ 9223372036854775807 then (if ((((((⟨#[108, 101, 103, 32]⟩ : ByteArray) ++ t112) ++ (⟨#[45]⟩ : ByteArray)) ++ t113) ++ (⟨#[32, 116, 97, 112, 101, 32]⟩ : ByteArray)) ++ t114).size + 9 ≤ 9223372036854775807 then ((spec_l1Num.f k a0_3).bind fun t115 => (if (((((((⟨#[108, 101, 103, 32]⟩ : ByteArray) ++ t112) ++ (⟨#[45]⟩ : ByteArray)) ++ t113) ++ (⟨#[32, 116, 97, 112, 101, 32]⟩ : ByteArray)) ++ t114) ++ (⟨#[32, 99, 111, 109, 112, 97, 115, 115, 32]⟩ : ByteArray)).size + t115.size ≤ 9223372036854775807 then (if ((((((((⟨#[108, 101, 103, 32]⟩ : ByteArray) ++ t112) ++ (⟨#[45]⟩ : ByteArray)) ++ t113) ++ (⟨#[32, 116, 97, 112, 101, 32]⟩ : ByteArray)) ++ t114) ++ (⟨#[32, 99, 111, 109, 112, 97, 115, 115, 32]⟩ : ByteArray)) ++ t115).size + 7 ≤ 9223372036854775807 then (if a0_4 < 0 then (if (((((((((⟨#[108, 101, 103, 32]⟩ : ByteArray) ++ t112) ++ (⟨#[45]⟩ : ByteArray)) ++ t113) ++ (⟨#[32, 116, 97, 112, 101, 32]⟩ : ByteArray)) ++ t114) ++ (⟨#[32, 99, 111, 109, 112, 97, 115, 115, 32]⟩ : ByteArray)) ++ t115) ++ (⟨#[32, 115, 108, 111, 112, 101, 32]⟩ : ByteArray)).size + 1 ≤ 9223372036854775807 then ((spec_l1Num.f k (wrap64 (-a0_4))).bind fun t116 => (if ((((((((((⟨#[108, 101, 103, 32]⟩ : ByteArray) ++ t112) ++ (⟨#[45]⟩ : ByteArray)) ++ t113) ++ (⟨#[32, 116, 97, 112, 101, 32]⟩ : ByteArray)) ++ t114) ++ (⟨#[32, 99, 111, 109, 112, 97, 115, 115, 32]⟩ : ByteArray)) ++ t115) ++ (⟨#[32, 115, 108, 111, 112, 101, 32]⟩ : ByteArray)) ++ (⟨#[45]⟩ : ByteArray)).size + t116.size ≤ 9223372036854775807 then (some (((((((((((⟨#[108, 101, 103, 32]⟩ : ByteArray) ++ t112) ++ (⟨#[45]⟩ : ByteArray)) ++ t113) ++ (⟨#[32, 116, 97, 112, 101, 32]⟩ : ByteArray)) ++ t114) ++ (⟨#[32, 99, 111, 109, 112, 97, 115, 115, 32]⟩ : ByteArray)) ++ t115) ++ (⟨#[32, 115, 108, 111, 112, 101, 32]⟩ : ByteArray)) ++ (⟨#[45]⟩ : ByteArray)) ++ t116)) else (none))) else (none)) else ((spec_l1Num.f k a0_4).bind fun t117 => (if (((((((((⟨#[108, 101, 103, 32]⟩ : ByteArray) ++ t112) ++ (⟨#[45]⟩ : ByteArray)) ++ t113) ++ (⟨#[32, 116, 97, 112, 101, 32]⟩ : ByteArray)) ++ t114) ++ (⟨#[32, 99, 111, 109, 112, 97, 115, 115, 32]⟩ : ByteArray)) ++ t115) ++ (⟨#[32, 115, 108, 111, 112, 101, 32]⟩ : ByteArray)).size + t117.size ≤ 9223372036854775807 then (some ((((((((((⟨#[108, 101, 103, 32]⟩ : ByteArray) ++ t112) ++ (⟨#[45]⟩ : ByteArray)) ++ t113) ++ (⟨#[32, 116, 97, 112, 101, 32]⟩ : ByteArray)) ++ t114) ++ (⟨#[32, 99, 111, 109, 112, 97, 115, 115, 32]⟩ : ByteArray)) ++ t115) ++ (⟨#[32, 115, 108, 111, 112, 101, 32]⟩ : ByteArray)) ++ t117)) else (none)))) else (none)) else (none))) else (none)) else (none)) = some r := H
          have A8 := Aside0.mk A80
          clear A80
          by_cases c9 : (((((⟨#[108, 101, 103, 32]⟩ : ByteArray) ++ t112) ++ (⟨#[45]⟩ : ByteArray)) ++ t113) ++ (⟨#[32, 116, 97, 112, 101, 32]⟩ : ByteArray)).size + t114.size ≤ 9223372036854775807
          · rw [if_pos c9] at H
            have c9b0 := eq_true c9
            have c9b1 : decide ((((((⟨#[108, 101, 103, 32]⟩ : ByteArray) ++ t112) ++ (⟨#[45]⟩ : ByteArray)) ++ t113) ++ (⟨#[32, 116, 97, 112, 101, 32]⟩ : ByteArray)).size + t114.size ≤ 9223372036854775807) = true := decide_eq_true c9
            try have c9b2 : (9223372036854775807 < (((((⟨#[108, 101, 103, 32]⟩ : ByteArray) ++ t112) ++ (⟨#[45]⟩ : ByteArray)) ++ t113) ++ (⟨#[32, 116, 97, 112, 101, 32]⟩ : ByteArray)).size + t114.size) = False := eq_false (Nat.not_lt.2 c9)
            (try have c9b6 : (9223372036854775807 < 4 + t112.size + 1 + t113.size + 6 + t114.size) = False := eq_false (by have h_ := c9; have hz0_ : (⟨#[108, 101, 103, 32]⟩ : ByteArray).size = 4 := rfl; have hz1_ : (⟨#[45]⟩ : ByteArray).size = 1 := rfl; have hz2_ : (⟨#[32, 116, 97, 112, 101, 32]⟩ : ByteArray).size = 6 := rfl; simp only [ByteArray.size_append, hz0_, hz1_, hz2_] at h_; omega))
            by_cases c10 : ((((((⟨#[108, 101, 103, 32]⟩ : ByteArray) ++ t112) ++ (⟨#[45]⟩ : ByteArray)) ++ t113) ++ (⟨#[32, 116, 97, 112, 101, 32]⟩ : ByteArray)) ++ t114).size + 9 ≤ 9223372036854775807
            · rw [if_pos c10] at H
              have c10b0 := eq_true c10
              have c10b1 : decide (((((((⟨#[108, 101, 103, 32]⟩ : ByteArray) ++ t112) ++ (⟨#[45]⟩ : ByteArray)) ++ t113) ++ (⟨#[32, 116, 97, 112, 101, 32]⟩ : ByteArray)) ++ t114).size + 9 ≤ 9223372036854775807) = true := decide_eq_true c10
              try have c10b2 : (9223372036854775807 < ((((((⟨#[108, 101, 103, 32]⟩ : ByteArray) ++ t112) ++ (⟨#[45]⟩ : ByteArray)) ++ t113) ++ (⟨#[32, 116, 97, 112, 101, 32]⟩ : ByteArray)) ++ t114).size + 9) = False := eq_false (Nat.not_lt.2 c10)
              (try have c10b6 : (9223372036854775807 < 4 + t112.size + 1 + t113.size + 6 + t114.size + 9) = False := eq_false (by have h_ := c10; have hz0_ : (⟨#[108, 101, 103, 32]⟩ : ByteArray).size = 4 := rfl; have hz1_ : (⟨#[45]⟩ : ByteArray).size = 1 := rfl; have hz2_ : (⟨#[32, 116, 97, 112, 101, 32]⟩ : ByteArray).size = 6 := rfl; simp only [ByteArray.size_append, hz0_, hz1_, hz2_] at h_; omega))
              replace H := Option.bind_eq_some_iff.mp H
              obtain ⟨t115, A110, H⟩ := H
              replace H : (if (((((((⟨#[108, 101, 103, 32]⟩ : ByteArray) ++ t112) ++ (⟨#[45]⟩ : ByteArray)) ++ t113) ++ (⟨#[32, 116, 97, 112, 101, 32]⟩ : ByteArray)) ++ t114) ++ (⟨#[32, 99, 111, 109, 112, 97, 115, 115, 32]⟩ : ByteArray)).size + t115.size ≤ 9223372036854775807 then (if ((((((((⟨#[108, 101, 103, 32]⟩ : ByteArray) ++ t112) ++ (⟨#[45]⟩ : ByteArray)) ++ t113) ++ (⟨#[32, 116, 97, 112, 101, 32]⟩ : ByteArray)) ++ t114) ++ (⟨#[32, 99, 111, 109, 112, 97, 115, 115, 32]⟩ : ByteArray)) ++ t115).size + 7 ≤ 9223372036854775807 then (if a0_4 < 0 then (if (((((((((⟨#[108, 101, 103, 32]⟩ : ByteArray) ++ t112) ++ (⟨#[45]⟩ : ByteArray)) ++ t113) ++ (⟨#[32, 116, 97, 112, 101, 32]⟩ : ByteArray)) ++ t114) ++ (⟨#[32, 99, 111, 109, 112, 97, 115, 115, 32]⟩ : ByteArray)) ++ t115) ++ (⟨#[32, 115, 108, 111, 112, 101, 32]⟩ : ByteArray)).size + 1 ≤ 9223372036854775807 then ((spec_l1Num.f k (wrap64 (-a0_4))).bind fun t116 => (if ((((((((((⟨#[108, 101, 103, 32]⟩ : ByteArray) ++ t112) ++ (⟨#[45]⟩ : ByteArray)) ++ t113) ++ (⟨#[32, 116, 97, 112, 101, 32]⟩ : ByteArray)) ++ t114) ++ (⟨#[32, 99, 111, 109, 112, 97, 115, 115, 32]⟩ : ByteArray)) ++ t115) ++ (⟨#[32, 115, 108, 111, 112, 101, 32]⟩ : ByteArray)) ++ (⟨#[45]⟩ : ByteArray)).size + t116.size ≤ 9223372036854775807 then (some (((((((((((⟨#[108, 101, 103, 32]⟩ : ByteArray) ++ t112) ++ (⟨#[45]⟩ : ByteArray)) ++ t113) ++ (⟨#[32, 116, 97, 112, 101, 32]⟩ : ByteArray)) ++ t114) ++ (⟨#[32, 99, 111, 109, 112, 97, 115, 115, 32]⟩ : ByteArray)) ++ t115) ++ (⟨#[32, 115, 108, 111, 112, 101, 32]⟩ : ByteArray)) ++ (⟨#[45]⟩ : ByteArray)) ++ t116)) else (none))) else (none)) else ((spec_l1Num.f k a0_4).bind fun t117 => (if (((((((((⟨#[108, 101, 103, 32]⟩ : ByteArray) ++ t112) ++ (⟨#[45]⟩ : ByteArray)) ++ t113) ++ (⟨#[32, 116, 97, 112, 101, 32]⟩ : ByteArray)) ++ t114) ++ (⟨#[32, 99, 111, 109, 112, 97, 115, 115, 32]⟩ : ByteArray)) ++ t115) ++ (⟨#[32, 115, 108, 111, 112, 101, 32]⟩ : ByteArray)).size + t117.size ≤ 9223372036854775807 then (some ((((((((((⟨#[108, 101, 103, 32]⟩ : ByteArray) ++ t112) ++ (⟨#[45]⟩ : ByteArray)) ++ t113) ++ (⟨#[32, 116, 97, 112, 101, 32]⟩ : ByteArray)) ++ t114) ++ (⟨#[32, 99, 111, 109, 112, 97, 115, 115, 32]⟩ : ByteArray)) ++ t115) ++ (⟨#[32, 115, 108, 111, 112, 101, 32]⟩ : ByteArray)) ++ t117)) else (none)))) else (none)) else (none)) = some r := H
              have A11 := Aside0.mk A110
              clear A110
              by_cases c12 : (((((((⟨#[108, 101, 103, 32]⟩ : ByteArray) ++ t112) ++ (⟨#[45]⟩ : ByteArray)) ++ t113) ++ (⟨#[32, 116, 97, 112, 101, 32]⟩ : ByteArray)) ++ t114) ++ (⟨#[32, 99, 111, 109, 112, 97, 115, 115, 32]⟩ : ByteArray)).size + t115.size ≤ 9223372036854775807
              · rw [if_pos c12] at H
                have c12b0 := eq_true c12
                have c12b1 : decide ((((((((⟨#[108, 101, 103, 32]⟩ : ByteArray) ++ t112) ++ (⟨#[45]⟩ : ByteArray)) ++ t113) ++ (⟨#[32, 116, 97, 112, 101, 32]⟩ : ByteArray)) ++ t114) ++ (⟨#[32, 99, 111, 109, 112, 97, 115, 115, 32]⟩ : ByteArray)).size + t115.size ≤ 9223372036854775807) = true := decide_eq_true c12
                try have c12b2 : (9223372036854775807 < (((((((⟨#[108, 101, 103, 32]⟩ : ByteArray) ++ t112) ++ (⟨#[45]⟩ : ByteArray)) ++ t113) ++ (⟨#[32, 116, 97, 112, 101, 32]⟩ : ByteArray)) ++ t114) ++ (⟨#[32, 99, 111, 109, 112, 97, 115, 115, 32]⟩ : ByteArray)).size + t115.size) = False := eq_false (Nat.not_lt.2 c12)
                (try have c12b6 : (9223372036854775807 < 4 + t112.size + 1 + t113.size + 6 + t114.size + 9 + t115.size) = False := eq_false (by have h_ := c12; have hz0_ : (⟨#[108, 101, 103, 32]⟩ : ByteArray).size = 4 := rfl; have hz1_ : (⟨#[45]⟩ : ByteArray).size = 1 := rfl; have hz2_ : (⟨#[32, 116, 97, 112, 101, 32]⟩ : ByteArray).size = 6 := rfl; have hz3_ : (⟨#[32, 99, 111, 109, 112, 97, 115, 115, 32]⟩ : ByteArray).size = 9 := rfl; simp only [ByteArray.size_append, hz0_, hz1_, hz2_, hz3_] at h_; omega))
                by_cases c13 : ((((((((⟨#[108, 101, 103, 32]⟩ : ByteArray) ++ t112) ++ (⟨#[45]⟩ : ByteArray)) ++ t113) ++ (⟨#[32, 116, 97, 112, 101, 32]⟩ : ByteArray)) ++ t114) ++ (⟨#[32, 99, 111, 109, 112, 97, 115, 115, 32]⟩ : ByteArray)) ++ t115).size + 7 ≤ 9223372036854775807
                · rw [if_pos c13] at H
                  have c13b0 := eq_true c13
                  have c13b1 : decide (((((((((⟨#[108, 101, 103, 32]⟩ : ByteArray) ++ t112) ++ (⟨#[45]⟩ : ByteArray)) ++ t113) ++ (⟨#[32, 116, 97, 112, 101, 32]⟩ : ByteArray)) ++ t114) ++ (⟨#[32, 99, 111, 109, 112, 97, 115, 115, 32]⟩ : ByteArray)) ++ t115).size + 7 ≤ 9223372036854775807) = true := decide_eq_true c13
                  try have c13b2 : (9223372036854775807 < ((((((((⟨#[108, 101, 103, 32]⟩ : ByteArray) ++ t112) ++ (⟨#[45]⟩ : ByteArray)) ++ t113) ++ (⟨#[32, 116, 97, 112, 101, 32]⟩ : ByteArray)) ++ t114) ++ (⟨#[32, 99, 111, 109, 112, 97, 115, 115, 32]⟩ : ByteArray)) ++ t115).size + 7) = False := eq_false (Nat.not_lt.2 c13)
                  (try have c13b6 : (9223372036854775807 < 4 + t112.size + 1 + t113.size + 6 + t114.size + 9 + t115.size + 7) = False := eq_false (by have h_ := c13; have hz0_ : (⟨#[108, 101, 103, 32]⟩ : ByteArray).size = 4 := rfl; have hz1_ : (⟨#[45]⟩ : ByteArray).size = 1 := rfl; have hz2_ : (⟨#[32, 116, 97, 112, 101, 32]⟩ : ByteArray).size = 6 := rfl; have hz3_ : (⟨#[32, 99, 111, 109, 112, 97, 115, 115, 32]⟩ : ByteArray).size = 9 := rfl; simp only [ByteArray.size_append, hz0_, hz1_, hz2_, hz3_] at h_; omega))
                  by_cases c14 : a0_4 < 0
                  · rw [if_pos c14] at H
                    have c14b0 : decide (a0_4 < 0) = true := decide_eq_true c14
                    clear c14
                    by_cases c15 : (((((((((⟨#[108, 101, 103, 32]⟩ : ByteArray) ++ t112) ++ (⟨#[45]⟩ : ByteArray)) ++ t113) ++ (⟨#[32, 116, 97, 112, 101, 32]⟩ : ByteArray)) ++ t114) ++ (⟨#[32, 99, 111, 109, 112, 97, 115, 115, 32]⟩ : ByteArray)) ++ t115) ++ (⟨#[32, 115, 108, 111, 112, 101, 32]⟩ : ByteArray)).size + 1 ≤ 9223372036854775807
                    · rw [if_pos c15] at H
                      have c15b0 := eq_true c15
                      have c15b1 : decide ((((((((((⟨#[108, 101, 103, 32]⟩ : ByteArray) ++ t112) ++ (⟨#[45]⟩ : ByteArray)) ++ t113) ++ (⟨#[32, 116, 97, 112, 101, 32]⟩ : ByteArray)) ++ t114) ++ (⟨#[32, 99, 111, 109, 112, 97, 115, 115, 32]⟩ : ByteArray)) ++ t115) ++ (⟨#[32, 115, 108, 111, 112, 101, 32]⟩ : ByteArray)).size + 1 ≤ 9223372036854775807) = true := decide_eq_true c15
                      try have c15b2 : (9223372036854775807 < (((((((((⟨#[108, 101, 103, 32]⟩ : ByteArray) ++ t112) ++ (⟨#[45]⟩ : ByteArray)) ++ t113) ++ (⟨#[32, 116, 97, 112, 101, 32]⟩ : ByteArray)) ++ t114) ++ (⟨#[32, 99, 111, 109, 112, 97, 115, 115, 32]⟩ : ByteArray)) ++ t115) ++ (⟨#[32, 115, 108, 111, 112, 101, 32]⟩ : ByteArray)).size + 1) = False := eq_false (Nat.not_lt.2 c15)
                      (try have c15b6 : (9223372036854775807 < 4 + t112.size + 1 + t113.size + 6 + t114.size + 9 + t115.size + 7 + 1) = False := eq_false (by have h_ := c15; have hz0_ : (⟨#[108, 101, 103, 32]⟩ : ByteArray).size = 4 := rfl; have hz1_ : (⟨#[45]⟩ : ByteArray).size = 1 := rfl; have hz2_ : (⟨#[32, 116, 97, 112, 101, 32]⟩ : ByteArray).size = 6 := rfl; have hz3_ : (⟨#[32, 99, 111, 109, 112, 97, 115, 115, 32]⟩ : ByteArray).size = 9 := rfl; have hz4_ : (⟨#[32, 115, 108, 111, 112, 101, 32]⟩ : ByteArray).size = 7 := rfl; simp only [ByteArray.size_append, hz0_, hz1_, hz2_, hz3_, hz4_] at h_; omega))
                      (try have c15b7 : (9223372036854775807 < 4 + t112.size + 1 + t113.size + 6 + t114.size + 9 + t115.size + 8) = False := eq_false (by have h_ := c15; have hz0_ : (⟨#[108, 101, 103, 32]⟩ : ByteArray).size = 4 := rfl; have hz1_ : (⟨#[45]⟩ : ByteArray).size = 1 := rfl; have hz2_ : (⟨#[32, 116, 97, 112, 101, 32]⟩ : ByteArray).size = 6 := rfl; have hz3_ : (⟨#[32, 99, 111, 109, 112, 97, 115, 115, 32]⟩ : ByteArray).size = 9 := rfl; have hz4_ : (⟨#[32, 115, 108, 111, 112, 101, 32]⟩ : ByteArray).size = 7 := rfl; simp only [ByteArray.size_append, hz0_, hz1_, hz2_, hz3_, hz4_] at h_; omega))
                      replace H := Option.bind_eq_some_iff.mp H
                      obtain ⟨t116, A160, H⟩ := H
                      replace H : (if ((((((((((⟨#[108, 101, 103, 32]⟩ : ByteArray) ++ t112) ++ (⟨#[45]⟩ : ByteArray)) ++ t113) ++ (⟨#[32, 116, 97, 112, 101, 32]⟩ : ByteArray)) ++ t114) ++ (⟨#[32, 99, 111, 109, 112, 97, 115, 115, 32]⟩ : ByteArray)) ++ t115) ++ (⟨#[32, 115, 108, 111, 112, 101, 32]⟩ : ByteArray)) ++ (⟨#[45]⟩ : ByteArray)).size + t116.size ≤ 9223372036854775807 then (some (((((((((((⟨#[108, 101, 103, 32]⟩ : ByteArray) ++ t112) ++ (⟨#[45]⟩ : ByteArray)) ++ t113) ++ (⟨#[32, 116, 97, 112, 101, 32]⟩ : ByteArray)) ++ t114) ++ (⟨#[32, 99, 111, 109, 112, 97, 115, 115, 32]⟩ : ByteArray)) ++ t115) ++ (⟨#[32, 115, 108, 111, 112, 101, 32]⟩ : ByteArray)) ++ (⟨#[45]⟩ : ByteArray)) ++ t116)) else (none)) = some r := H
                      have A16 := Aside0.mk A160
                      clear A160
                      by_cases c17 : ((((((((((⟨#[108, 101, 103, 32]⟩ : ByteArray) ++ t112) ++ (⟨#[45]⟩ : ByteArray)) ++ t113) ++ (⟨#[32, 116, 97, 112, 101, 32]⟩ : ByteArray)) ++ t114) ++ (⟨#[32, 99, 111, 109, 112, 97, 115, 115, 32]⟩ : ByteArray)) ++ t115) ++ (⟨#[32, 115, 108, 111, 112, 101, 32]⟩ : ByteArray)) ++ (⟨#[45]⟩ : ByteArray)).size + t116.size ≤ 9223372036854775807
                      · rw [if_pos c17] at H
                        have c17b0 := eq_true c17
                        have c17b1 : decide (((((((((((⟨#[108, 101, 103, 32]⟩ : ByteArray) ++ t112) ++ (⟨#[45]⟩ : ByteArray)) ++ t113) ++ (⟨#[32, 116, 97, 112, 101, 32]⟩ : ByteArray)) ++ t114) ++ (⟨#[32, 99, 111, 109, 112, 97, 115, 115, 32]⟩ : ByteArray)) ++ t115) ++ (⟨#[32, 115, 108, 111, 112, 101, 32]⟩ : ByteArray)) ++ (⟨#[45]⟩ : ByteArray)).size + t116.size ≤ 9223372036854775807) = true := decide_eq_true c17
                        try have c17b2 : (9223372036854775807 < ((((((((((⟨#[108, 101, 103, 32]⟩ : ByteArray) ++ t112) ++ (⟨#[45]⟩ : ByteArray)) ++ t113) ++ (⟨#[32, 116, 97, 112, 101, 32]⟩ : ByteArray)) ++ t114) ++ (⟨#[32, 99, 111, 109, 112, 97, 115, 115, 32]⟩ : ByteArray)) ++ t115) ++ (⟨#[32, 115, 108, 111, 112, 101, 32]⟩ : ByteArray)) ++ (⟨#[45]⟩ : ByteArray)).size + t116.size) = False := eq_false (Nat.not_lt.2 c17)
                        (try have c17b6 : (9223372036854775807 < 4 + t112.size + 1 + t113.size + 6 + t114.size + 9 + t115.size + 7 + 1 + t116.size) = False := eq_false (by have h_ := c17; have hz0_ : (⟨#[108, 101, 103, 32]⟩ : ByteArray).size = 4 := rfl; have hz1_ : (⟨#[45]⟩ : ByteArray).size = 1 := rfl; have hz2_ : (⟨#[32, 116, 97, 112, 101, 32]⟩ : ByteArray).size = 6 := rfl; have hz3_ : (⟨#[32, 99, 111, 109, 112, 97, 115, 115, 32]⟩ : ByteArray).size = 9 := rfl; have hz4_ : (⟨#[32, 115, 108, 111, 112, 101, 32]⟩ : ByteArray).size = 7 := rfl; simp only [ByteArray.size_append, hz0_, hz1_, hz2_, hz3_, hz4_] at h_; omega))
                        (try have c17b7 : (9223372036854775807 < 4 + t112.size + 1 + t113.size + 6 + t114.size + 9 + t115.size + 8 + t116.size) = False := eq_false (by have h_ := c17; have hz0_ : (⟨#[108, 101, 103, 32]⟩ : ByteArray).size = 4 := rfl; have hz1_ : (⟨#[45]⟩ : ByteArray).size = 1 := rfl; have hz2_ : (⟨#[32, 116, 97, 112, 101, 32]⟩ : ByteArray).size = 6 := rfl; have hz3_ : (⟨#[32, 99, 111, 109, 112, 97, 115, 115, 32]⟩ : ByteArray).size = 9 := rfl; have hz4_ : (⟨#[32, 115, 108, 111, 112, 101, 32]⟩ : ByteArray).size = 7 := rfl; simp only [ByteArray.size_append, hz0_, hz1_, hz2_, hz3_, hz4_] at h_; omega))
                        obtain rfl := Option.some.inj H
                        go_enter Tryd.func34, Tryd.ntmps34
                        try go_wp2_with (first | ((with_reducible refine gate_dst (N := 1) rfl ?_); refine box_event ?hg (N := 1) ?hd (cs := #[.int .i64 a0_0, .int .i64 a0_1, .int .i64 a0_2, .int .i64 a0_3, .int .i64 a0_4]) (t := 28) ?hr ?_; (case hd => rfl); (case hg => rfl); (case hr => first | (go_simp; done) | (go_simp; rfl)); intro gb111 hg w18 hbox hb; have n0_ := Aside0.mk (below_step (by repeat (first | (with_reducible first | exact HB.out | apply below_alloc | apply pw_below_drewN | apply below_drew1) | exact HB.out)) hb); have n1_ := Aside0.mk (hbox); have n2_ := Aside0.mk ((by rw [hg]; exact (below_size (by repeat (first | (with_reducible first | exact HB.out | apply below_alloc | apply pw_below_drewN | apply below_drew1) | exact HB.out))) : w.heap.size ≤ gb111)); have n3_ := Aside0.mk ((by rw [hg]; exact (below_size (by repeat (first | (with_reducible first | exact HB.out | apply below_alloc | apply pw_below_drewN | apply below_drew1) | exact HB.out))) : w.heap.size ≤ gb111)); clear HB; have HB := n0_; have BK111 := n1_; have GW111 := n2_; have GE111 := n3_; clear n0_ n1_ n2_ n3_; clear hb hbox hg))
                        have n0_ := Aside0.mk (blk_drew BK111.out)
                        have n1_ := Aside0.mk (below_drew1 HB.out)
                        clear BK111
                        clear HB
                        have BK111 := n0_
                        have HB := n1_
                        clear n0_ n1_
                        refine start_ (n := 21) (S := fun w' => w'.cell? ⟨gb111, 0, none⟩ = some (.int .i64 a0_0) ∧ w'.cell? ⟨gb111, 1, none⟩ = some (.int .i64 a0_1) ∧ w'.cell? ⟨gb111, 2, none⟩ = some (.int .i64 a0_2) ∧ w'.cell? ⟨gb111, 3, none⟩ = some (.int .i64 a0_3) ∧ w'.cell? ⟨gb111, 4, none⟩ = some (.int .i64 a0_4)) (ds := []) #[false, false, false, false, false, false, false, false, false, false, false, false, false, false, false, false, false, false, false, false, false] (by kernel_rfl) rfl rfl ⟨(blk_cell BK111.out 0).trans rfl, (blk_cell BK111.out 1).trans rfl, (blk_cell BK111.out 2).trans rfl, (blk_cell BK111.out 3).trans rfl, (blk_cell BK111.out 4).trans rfl⟩ (fun hHeld => ?_); refine with_tabW spec_l4Text.tab1 spec_l4Text.bits1 (fun HT_ HW_ => ?_)
                        generalize w18.drew = w19 at BK111 HB hHeld ⊢
                        refine pure_ (i := 0) (N := some 4) (v := ?_) (a' := ?_) #[true, false, false, false, false, false, false, false, false, false, false, false, false, false, false, false, false, false, false, false, false] rfl rfl (any_of HT_.out (by kernel_rfl)) (fun _ _ _ h => h) (Or.inl ⟨by rfl, ?_⟩) ?_ ?_
                        rotate_left
                        · intro w'
                          go_simp
                          with_reducible rfl
                        rotate_left
                        · simp only [Act.put, List.setIfInBounds_toArray, List.set_cons_zero, List.set_cons_succ, i64_w, i32_w]
                          rfl
                        refine pure_ (i := 5) (N := some 9) (v := ?_) (a' := ?_) #[true, false, false, false, false, true, false, false, false, false, false, false, false, false, false, false, false, false, false, false, false] rfl rfl (any_of HT_.out (by kernel_rfl)) (fun _ _ _ h => h) (Or.inl ⟨by rfl, ?_⟩) ?_ ?_
                        rotate_left
                        · intro w'
                          go_simp
                          with_reducible rfl
                        rotate_left
                        · simp only [Act.put, List.setIfInBounds_toArray, List.set_cons_zero, List.set_cons_succ, i64_w, i32_w]
                          rfl
                        refine pure_ (i := 10) (N := some 14) (v := ?_) (a' := ?_) #[true, false, false, false, false, true, false, false, false, false, true, false, false, false, false, false, false, false, false, false, false] rfl rfl (any_of HT_.out (by kernel_rfl)) (fun _ _ _ h => h) (Or.inl ⟨by rfl, ?_⟩) ?_ ?_
                        rotate_left
                        · intro w'
                          go_simp
                          with_reducible rfl
                        rotate_left
                        · simp only [Act.put, List.setIfInBounds_toArray, List.set_cons_zero, List.set_cons_succ, i64_w, i32_w]
                          rfl
                        refine pure_ (i := 15) (N := some 19) (v := ?_) (a' := ?_) #[true, false, false, false, false, true, false, false, false, false, true, false, false, false, false, true, false, false, false, false, false] rfl rfl (any_of HT_.out (by kernel_rfl)) (fun _ _ _ h => h) (Or.inl ⟨by rfl, ?_⟩) ?_ ?_
                        rotate_left
                        · intro w'
                          go_simp
                          with_reducible rfl
                        rotate_left
                        · simp only [Act.put, List.setIfInBounds_toArray, List.set_cons_zero, List.set_cons_succ, i64_w, i32_w]
                          rfl
                        refine take_ (i := 1) (N := some 5) (v := ?_) (a' := ?_) #[true, true, false, false, false, true, false, false, false, false, true, false, false, false, false, true, false, false, false, false, false] rfl rfl (take_ofW HT_.out HW_.out (by kernel_rfl)) (fun _ _ _ h => h) (Or.inl ⟨by rfl, ?_⟩) hHeld ?_ ?_
                        rotate_left
                        · rintro w' ⟨s0, s1, s2, s3, s4⟩
                          go_simp
                          with_reducible rfl
                        rotate_left
                        · simp only [Act.put, List.setIfInBounds_toArray, List.set_cons_zero, List.set_cons_succ, i64_w, i32_w]
                          rfl
                        refine take_ (i := 6) (N := some 10) (v := ?_) (a' := ?_) #[true, true, false, false, false, true, true, false, false, false, true, false, false, false, false, true, false, false, false, false, false] rfl rfl (take_ofW HT_.out HW_.out (by kernel_rfl)) (fun _ _ _ h => h) (Or.inl ⟨by rfl, ?_⟩) hHeld ?_ ?_
                        rotate_left
                        · rintro w' ⟨s0, s1, s2, s3, s4⟩
                          go_simp
                          with_reducible rfl
                        rotate_left
                        · simp only [Act.put, List.setIfInBounds_toArray, List.set_cons_zero, List.set_cons_succ, i64_w, i32_w]
                          rfl
                        refine take_ (i := 11) (N := some 15) (v := ?_) (a' := ?_) #[true, true, false, false, false, true, true, false, false, false, true, true, false, false, false, true, false, false, false, false, false] rfl rfl (take_ofW HT_.out HW_.out (by kernel_rfl)) (fun _ _ _ h => h) (Or.inl ⟨by rfl, ?_⟩) hHeld ?_ ?_
                        rotate_left
                        · rintro w' ⟨s0, s1, s2, s3, s4⟩
                          go_simp
                          with_reducible rfl
                        rotate_left
                        · simp only [Act.put, List.setIfInBounds_toArray, List.set_cons_zero, List.set_cons_succ, i64_w, i32_w]
                          rfl
                        refine take_ (i := 16) (N := some 20) (v := ?_) (a' := ?_) #[true, true, false, false, false, true, true, false, false, false, true, true, false, false, false, true, true, false, false, false, false] rfl rfl (take_ofW HT_.out HW_.out (by kernel_rfl)) (fun _ _ _ h => h) (Or.inl ⟨by rfl, ?_⟩) hHeld ?_ ?_
                        rotate_left
                        · rintro w' ⟨s0, s1, s2, s3, s4⟩
                          go_simp
                          with_reducible rfl
                        rotate_left
                        · simp only [Act.put, List.setIfInBounds_toArray, List.set_cons_zero, List.set_cons_succ, i64_w, i32_w]
                          rfl
                        refine one_ (i := 2) (N := some 6) #[true, true, true, false, false, true, true, false, false, false, true, true, false, false, false, true, true, false, false, false, false] rfl rfl (one_of HT_.out (by kernel_rfl)) (by decide) (fun K hK => ?_)
                        refine goes_ Tryd.func30 (by kernel_rfl) rfl #[.int .i64 a0_0] (by rfl) rfl rfl (by (try simp only [List.map_toArray, List.map_cons, List.map_nil]); first | done | rfl | (simp only [List.length_drop, List.length_take]; rfl)) ?_
                        with_reducible refine (spec_l1Num.calls k a0_0 t112 _ A2.out).mono ?_
                        rintro e w20 ⟨rfl, hb⟩
                        refine ⟨_, rfl, ?_⟩
                        have n0_ := Aside0.mk (blk_below (g := gb111) (o := .cells #[.int .i64 a0_0, .int .i64 a0_1, .int .i64 a0_2, .int .i64 a0_3, .int .i64 a0_4] 28 (0, 0)) (by (with_reducible repeat (first | refine blk_drewN ?_ _ | refine blk_drew ?_ | refine blk_alloc ?_ _)); exact BK111.out) hb)
                        have n1_ := Aside0.mk (below_step (by repeat (first | (with_reducible first | exact HB.out | apply below_alloc | apply pw_below_drewN | apply below_drew1 | refine below_set ?_ GE111.out) | exact HB.out)) hb)
                        clear BK111
                        clear HB
                        have BK111 := n0_
                        have HB := n1_
                        clear n0_ n1_
                        (try clear hb)
                        (try clear hb2)
                        (try clear hk)
                        (try clear hi)
                        refine hK.out _ _ ⟨(blk_cell BK111.out 0).trans rfl, (blk_cell BK111.out 1).trans rfl, (blk_cell BK111.out 2).trans rfl, (blk_cell BK111.out 3).trans rfl, (blk_cell BK111.out 4).trans rfl⟩ (fun hHeld => ?_)
                        clear hK K
                        refine norm_ (a' := ?_) ?_ ?_
                        rotate_left
                        · show Act.put _ (some 6) _ = _
                          simp only [Act.put, List.setIfInBounds_toArray, List.set_cons_zero, List.set_cons_succ, i64_w, i32_w]
                          rfl
                        refine pure_ (i := 3) (N := some 7) (v := ?_) (a' := ?_) #[true, true, true, true, false, true, true, false, false, false, true, true, false, false, false, true, true, false, false, false, false] rfl rfl (any_of HT_.out (by kernel_rfl)) (fun _ _ _ h => h) (Or.inl ⟨by rfl, ?_⟩) ?_ ?_
                        rotate_left
                        · intro w'
                          go_simp
                          with_reducible rfl
                        rotate_left
                        · simp only [Act.put, List.setIfInBounds_toArray, List.set_cons_zero, List.set_cons_succ, i64_w, i32_w]
                          rfl
                        refine pure_ (i := 4) (N := some 8) (v := ?_) (a' := ?_) #[true, true, true, true, true, true, true, false, false, false, true, true, false, false, false, true, true, false, false, false, false] rfl rfl (any_of HT_.out (by kernel_rfl)) (fun _ _ _ h => h) (Or.inl ⟨by rfl, ?_⟩) ?_ ?_
                        rotate_left
                        · intro w'
                          go_simp
                          with_reducible rfl
                        rotate_left
                        · simp only [Act.put, List.setIfInBounds_toArray, List.set_cons_zero, List.set_cons_succ, i64_w, i32_w]
                          rfl
                        refine one_ (i := 7) (N := some 11) #[true, true, true, true, true, true, true, true, false, false, true, true, false, false, false, true, true, false, false, false, false] rfl rfl (one_of HT_.out (by kernel_rfl)) (by decide) (fun K hK => ?_)
                        refine goes_ Tryd.func30 (by kernel_rfl) rfl #[.int .i64 a0_1] (by rfl) rfl rfl (by (try simp only [List.map_toArray, List.map_cons, List.map_nil]); first | done | rfl | (simp only [List.length_drop, List.length_take]; rfl)) ?_
                        with_reducible refine (spec_l1Num.calls k a0_1 t113 _ A5.out).mono ?_
                        rintro e w21 ⟨rfl, hb⟩
                        refine ⟨_, rfl, ?_⟩
                        have n0_ := Aside0.mk (blk_below (g := gb111) (o := .cells #[.int .i64 a0_0, .int .i64 a0_1, .int .i64 a0_2, .int .i64 a0_3, .int .i64 a0_4] 28 (0, 0)) (by (with_reducible repeat (first | refine blk_drewN ?_ _ | refine blk_drew ?_ | refine blk_alloc ?_ _)); exact BK111.out) hb)
                        have n1_ := Aside0.mk (below_step (by repeat (first | (with_reducible first | exact HB.out | apply below_alloc | apply pw_below_drewN | apply below_drew1 | refine below_set ?_ GE111.out) | exact HB.out)) hb)
                        clear BK111
                        clear HB
                        have BK111 := n0_
                        have HB := n1_
                        clear n0_ n1_
                        (try clear hb)
                        (try clear hb2)
                        (try clear hk)
                        (try clear hi)
                        refine hK.out _ _ ⟨(blk_cell BK111.out 0).trans rfl, (blk_cell BK111.out 1).trans rfl, (blk_cell BK111.out 2).trans rfl, (blk_cell BK111.out 3).trans rfl, (blk_cell BK111.out 4).trans rfl⟩ (fun hHeld => ?_)
                        clear hK K
                        refine norm_ (a' := ?_) ?_ ?_
                        rotate_left
                        · show Act.put _ (some 11) _ = _
                          simp only [Act.put, List.setIfInBounds_toArray, List.set_cons_zero, List.set_cons_succ, i64_w, i32_w]
                          rfl
                        refine pure_ (i := 8) (N := some 12) (v := ?_) (a' := ?_) #[true, true, true, true, true, true, true, true, true, false, true, true, false, false, false, true, true, false, false, false, false] rfl rfl (any_of HT_.out (by kernel_rfl)) (fun _ _ _ h => h) (Or.inl ⟨by rfl, ?_⟩) ?_ ?_
                        rotate_left
                        · intro w'
                          go_simp
                          with_reducible rfl
                        rotate_left
                        · simp only [Act.put, List.setIfInBounds_toArray, List.set_cons_zero, List.set_cons_succ, i64_w, i32_w]
                          rfl
                        refine pure_ (i := 9) (N := some 13) (v := ?_) (a' := ?_) #[true, true, true, true, true, true, true, true, true, true, true, true, false, false, false, true, true, false, false, false, false] rfl rfl (any_of HT_.out (by kernel_rfl)) (fun _ _ _ h => h) (Or.inl ⟨by rfl, ?_⟩) ?_ ?_
                        rotate_left
                        · intro w'
                          go_simp
                          with_reducible rfl
                        rotate_left
                        · simp only [Act.put, List.setIfInBounds_toArray, List.set_cons_zero, List.set_cons_succ, i64_w, i32_w]
                          rfl
                        refine one_ (i := 12) (N := some 16) #[true, true, true, true, true, true, true, true, true, true, true, true, true, false, false, true, true, false, false, false, false] rfl rfl (one_of HT_.out (by kernel_rfl)) (by decide) (fun K hK => ?_)
                        refine goes_ Tryd.func30 (by kernel_rfl) rfl #[.int .i64 a0_2] (by rfl) rfl rfl (by (try simp only [List.map_toArray, List.map_cons, List.map_nil]); first | done | rfl | (simp only [List.length_drop, List.length_take]; rfl)) ?_
                        with_reducible refine (spec_l1Num.calls k a0_2 t114 _ A8.out).mono ?_
                        rintro e w22 ⟨rfl, hb⟩
                        refine ⟨_, rfl, ?_⟩
                        have n0_ := Aside0.mk (blk_below (g := gb111) (o := .cells #[.int .i64 a0_0, .int .i64 a0_1, .int .i64 a0_2, .int .i64 a0_3, .int .i64 a0_4] 28 (0, 0)) (by (with_reducible repeat (first | refine blk_drewN ?_ _ | refine blk_drew ?_ | refine blk_alloc ?_ _)); exact BK111.out) hb)
                        have n1_ := Aside0.mk (below_step (by repeat (first | (with_reducible first | exact HB.out | apply below_alloc | apply pw_below_drewN | apply below_drew1 | refine below_set ?_ GE111.out) | exact HB.out)) hb)
                        clear BK111
                        clear HB
                        have BK111 := n0_
                        have HB := n1_
                        clear n0_ n1_
                        (try clear hb)
                        (try clear hb2)
                        (try clear hk)
                        (try clear hi)
                        refine hK.out _ _ ⟨(blk_cell BK111.out 0).trans rfl, (blk_cell BK111.out 1).trans rfl, (blk_cell BK111.out 2).trans rfl, (blk_cell BK111.out 3).trans rfl, (blk_cell BK111.out 4).trans rfl⟩ (fun hHeld => ?_)
                        clear hK K
                        refine norm_ (a' := ?_) ?_ ?_
                        rotate_left
                        · show Act.put _ (some 16) _ = _
                          simp only [Act.put, List.setIfInBounds_toArray, List.set_cons_zero, List.set_cons_succ, i64_w, i32_w]
                          rfl
                        refine pure_ (i := 13) (N := some 17) (v := ?_) (a' := ?_) #[true, true, true, true, true, true, true, true, true, true, true, true, true, true, false, true, true, false, false, false, false] rfl rfl (any_of HT_.out (by kernel_rfl)) (fun _ _ _ h => h) (Or.inl ⟨by rfl, ?_⟩) ?_ ?_
                        rotate_left
                        · intro w'
                          go_simp
                          with_reducible rfl
                        rotate_left
                        · simp only [Act.put, List.setIfInBounds_toArray, List.set_cons_zero, List.set_cons_succ, i64_w, i32_w]
                          rfl
                        refine pure_ (i := 14) (N := some 18) (v := ?_) (a' := ?_) #[true, true, true, true, true, true, true, true, true, true, true, true, true, true, true, true, true, false, false, false, false] rfl rfl (any_of HT_.out (by kernel_rfl)) (fun _ _ _ h => h) (Or.inl ⟨by rfl, ?_⟩) ?_ ?_
                        rotate_left
                        · intro w'
                          go_simp
                          with_reducible rfl
                        rotate_left
                        · simp only [Act.put, List.setIfInBounds_toArray, List.set_cons_zero, List.set_cons_succ, i64_w, i32_w]
                          rfl
                        refine one_ (i := 17) (N := some 21) #[true, true, true, true, true, true, true, true, true, true, true, true, true, true, true, true, true, true, false, false, false] rfl rfl (one_of HT_.out (by kernel_rfl)) (by decide) (fun K hK => ?_)
                        refine goes_ Tryd.func30 (by kernel_rfl) rfl #[.int .i64 a0_3] (by rfl) rfl rfl (by (try simp only [List.map_toArray, List.map_cons, List.map_nil]); first | done | rfl | (simp only [List.length_drop, List.length_take]; rfl)) ?_
                        with_reducible refine (spec_l1Num.calls k a0_3 t115 _ A11.out).mono ?_
                        rintro e w23 ⟨rfl, hb⟩
                        refine ⟨_, rfl, ?_⟩
                        have n0_ := Aside0.mk (blk_below (g := gb111) (o := .cells #[.int .i64 a0_0, .int .i64 a0_1, .int .i64 a0_2, .int .i64 a0_3, .int .i64 a0_4] 28 (0, 0)) (by (with_reducible repeat (first | refine blk_drewN ?_ _ | refine blk_drew ?_ | refine blk_alloc ?_ _)); exact BK111.out) hb)
                        have n1_ := Aside0.mk (below_step (by repeat (first | (with_reducible first | exact HB.out | apply below_alloc | apply pw_below_drewN | apply below_drew1 | refine below_set ?_ GE111.out) | exact HB.out)) hb)
                        clear BK111
                        clear HB
                        have BK111 := n0_
                        have HB := n1_
                        clear n0_ n1_
                        (try clear hb)
                        (try clear hb2)
                        (try clear hk)
                        (try clear hi)
                        refine hK.out _ _ ⟨(blk_cell BK111.out 0).trans rfl, (blk_cell BK111.out 1).trans rfl, (blk_cell BK111.out 2).trans rfl, (blk_cell BK111.out 3).trans rfl, (blk_cell BK111.out 4).trans rfl⟩ (fun hHeld => ?_)
                        clear hK K
                        refine norm_ (a' := ?_) ?_ ?_
                        rotate_left
                        · show Act.put _ (some 21) _ = _
                          simp only [Act.put, List.setIfInBounds_toArray, List.set_cons_zero, List.set_cons_succ, i64_w, i32_w]
                          rfl
                        refine pure_ (i := 18) (N := some 22) (v := ?_) (a' := ?_) #[true, true, true, true, true, true, true, true, true, true, true, true, true, true, true, true, true, true, true, false, false] rfl rfl (any_of HT_.out (by kernel_rfl)) (fun _ _ _ h => h) (Or.inl ⟨by rfl, ?_⟩) ?_ ?_
                        rotate_left
                        · intro w'
                          go_simp
                          with_reducible rfl
                        rotate_left
                        · simp only [Act.put, List.setIfInBounds_toArray, List.set_cons_zero, List.set_cons_succ, i64_w, i32_w]
                          rfl
                        refine pure_ (i := 19) (N := some 23) (v := ?_) (a' := ?_) #[true, true, true, true, true, true, true, true, true, true, true, true, true, true, true, true, true, true, true, true, false] rfl rfl (any_of HT_.out (by kernel_rfl)) (fun _ _ _ h => h) (Or.inl ⟨by rfl, ?_⟩) ?_ ?_
                        rotate_left
                        · intro w'
                          go_simp
                          with_reducible rfl
                        rotate_left
                        · simp only [Act.put, List.setIfInBounds_toArray, List.set_cons_zero, List.set_cons_succ, i64_w, i32_w]
                          rfl
                        refine pure_ (i := 20) (N := some 3) (v := ?_) (a' := ?_) #[true, true, true, true, true, true, true, true, true, true, true, true, true, true, true, true, true, true, true, true, true] rfl rfl (any_of HT_.out (by kernel_rfl)) (fun _ _ _ h => h) (Or.inl ⟨by rfl, ?_⟩) ?_ ?_
                        rotate_left
                        · intro w'
                          go_simp
                          with_reducible rfl
                        rotate_left
                        · simp only [Act.put, List.setIfInBounds_toArray, List.set_cons_zero, List.set_cons_succ, i64_w, i32_w]
                          rfl
                        refine done_ (done_of HT_.out (by kernel_rfl)) ?_
                        have hcz24_0 : w23.cell? ⟨gb111, 0, none⟩ = some (.int .i64 a0_0) := (blk_cell BK111.out 0).trans rfl
                        have hcz24_1 : w23.cell? ⟨gb111, 1, none⟩ = some (.int .i64 a0_1) := (blk_cell BK111.out 1).trans rfl
                        have hcz24_2 : w23.cell? ⟨gb111, 2, none⟩ = some (.int .i64 a0_2) := (blk_cell BK111.out 2).trans rfl
                        have hcz24_3 : w23.cell? ⟨gb111, 3, none⟩ = some (.int .i64 a0_3) := (blk_cell BK111.out 3).trans rfl
                        have hcz24_4 : w23.cell? ⟨gb111, 4, none⟩ = some (.int .i64 a0_4) := (blk_cell BK111.out 4).trans rfl
                        have hfz24_0 := blk_frozen BK111.out 0
                        have hfz24_1 := blk_frozen BK111.out 1
                        have hfz24_2 := blk_frozen BK111.out 2
                        have hfz24_3 := blk_frozen BK111.out 3
                        have hfz24_4 := blk_frozen BK111.out 4
                        try go_wp2_with (first | ((with_reducible refine gate_callee (f := 30) rfl ?_); refine goesL_ (some 32) rfl rfl Tryd.func30 (by kernel_rfl) rfl #[.int .i64 (wrap64 (-a0_4))] rfl (by (try simp only [List.map_toArray, List.map_cons, List.map_nil]); first | done | rfl | (simp only [List.length_drop, List.length_take]; rfl)) ?_; (with_reducible refine (spec_l1Num.calls k (wrap64 (-a0_4)) t116 _ A16.out).mono ?_); rintro e w25 ⟨rfl, hb⟩; refine ⟨_, rfl, ?_⟩; have n0_ := Aside0.mk (blk_below (g := gb111) (o := .cells #[.int .i64 a0_0, .int .i64 a0_1, .int .i64 a0_2, .int .i64 a0_3, .int .i64 a0_4] 28 (0, 0)) (by (with_reducible repeat (first | refine blk_drewN ?_ _ | refine blk_drew ?_ | refine blk_alloc ?_ _)); exact BK111.out) hb); have n1_ := Aside0.mk (below_step (by repeat (first | (with_reducible first | exact HB.out | apply below_alloc | apply pw_below_drewN | apply below_drew1 | refine below_set ?_ GE111.out) | exact HB.out)) hb); clear BK111; clear HB; have BK111 := n0_; have HB := n1_; clear n0_ n1_; (try clear hb); (try clear hb2); (try clear hk); (try clear hi)))
                        go_ret
                        exact ⟨by first | rfl | (simp [errW_none, errW_some] <;> rfl) | (simp [*, errW_none, errW_some] <;> rfl), by repeat (first | (with_reducible first | exact HB.out | apply below_alloc | apply pw_below_drewN | apply below_drew1 | refine below_set ?_ GE111.out) | exact HB.out)⟩
                      · rw [if_neg c17] at H
                        exact absurd H (by simp)
                    · rw [if_neg c15] at H
                      exact absurd H (by simp)
                  · rw [if_neg c14] at H
                    have c14b0 : decide (a0_4 < 0) = false := decide_eq_false c14
                    clear c14
                    replace H := Option.bind_eq_some_iff.mp H
                    obtain ⟨t117, A260, H⟩ := H
                    replace H : (if (((((((((⟨#[108, 101, 103, 32]⟩ : ByteArray) ++ t112) ++ (⟨#[45]⟩ : ByteArray)) ++ t113) ++ (⟨#[32, 116, 97, 112, 101, 32]⟩ : ByteArray)) ++ t114) ++ (⟨#[32, 99, 111, 109, 112, 97, 115, 115, 32]⟩ : ByteArray)) ++ t115) ++ (⟨#[32, 115, 108, 111, 112, 101, 32]⟩ : ByteArray)).size + t117.size ≤ 9223372036854775807 then (some ((((((((((⟨#[108, 101, 103, 32]⟩ : ByteArray) ++ t112) ++ (⟨#[45]⟩ : ByteArray)) ++ t113) ++ (⟨#[32, 116, 97, 112, 101, 32]⟩ : ByteArray)) ++ t114) ++ (⟨#[32, 99, 111, 109, 112, 97, 115, 115, 32]⟩ : ByteArray)) ++ t115) ++ (⟨#[32, 115, 108, 111, 112, 101, 32]⟩ : ByteArray)) ++ t117)) else (none)) = some r := H
                    have A26 := Aside0.mk A260
                    clear A260
                    by_cases c27 : (((((((((⟨#[108, 101, 103, 32]⟩ : ByteArray) ++ t112) ++ (⟨#[45]⟩ : ByteArray)) ++ t113) ++ (⟨#[32, 116, 97, 112, 101, 32]⟩ : ByteArray)) ++ t114) ++ (⟨#[32, 99, 111, 109, 112, 97, 115, 115, 32]⟩ : ByteArray)) ++ t115) ++ (⟨#[32, 115, 108, 111, 112, 101, 32]⟩ : ByteArray)).size + t117.size ≤ 9223372036854775807
                    · rw [if_pos c27] at H
                      have c27b0 := eq_true c27
                      have c27b1 : decide ((((((((((⟨#[108, 101, 103, 32]⟩ : ByteArray) ++ t112) ++ (⟨#[45]⟩ : ByteArray)) ++ t113) ++ (⟨#[32, 116, 97, 112, 101, 32]⟩ : ByteArray)) ++ t114) ++ (⟨#[32, 99, 111, 109, 112, 97, 115, 115, 32]⟩ : ByteArray)) ++ t115) ++ (⟨#[32, 115, 108, 111, 112, 101, 32]⟩ : ByteArray)).size + t117.size ≤ 9223372036854775807) = true := decide_eq_true c27
                      try have c27b2 : (9223372036854775807 < (((((((((⟨#[108, 101, 103, 32]⟩ : ByteArray) ++ t112) ++ (⟨#[45]⟩ : ByteArray)) ++ t113) ++ (⟨#[32, 116, 97, 112, 101, 32]⟩ : ByteArray)) ++ t114) ++ (⟨#[32, 99, 111, 109, 112, 97, 115, 115, 32]⟩ : ByteArray)) ++ t115) ++ (⟨#[32, 115, 108, 111, 112, 101, 32]⟩ : ByteArray)).size + t117.size) = False := eq_false (Nat.not_lt.2 c27)
                      (try have c27b6 : (9223372036854775807 < 4 + t112.size + 1 + t113.size + 6 + t114.size + 9 + t115.size + 7 + t117.size) = False := eq_false (by have h_ := c27; have hz0_ : (⟨#[108, 101, 103, 32]⟩ : ByteArray).size = 4 := rfl; have hz1_ : (⟨#[45]⟩ : ByteArray).size = 1 := rfl; have hz2_ : (⟨#[32, 116, 97, 112, 101, 32]⟩ : ByteArray).size = 6 := rfl; have hz3_ : (⟨#[32, 99, 111, 109, 112, 97, 115, 115, 32]⟩ : ByteArray).size = 9 := rfl; have hz4_ : (⟨#[32, 115, 108, 111, 112, 101, 32]⟩ : ByteArray).size = 7 := rfl; simp only [ByteArray.size_append, hz0_, hz1_, hz2_, hz3_, hz4_] at h_; omega))
                      obtain rfl := Option.some.inj H
                      go_enter Tryd.func34, Tryd.ntmps34
                      try go_wp2_with (first | ((with_reducible refine gate_dst (N := 1) rfl ?_); refine box_event ?hg (N := 1) ?hd (cs := #[.int .i64 a0_0, .int .i64 a0_1, .int .i64 a0_2, .int .i64 a0_3, .int .i64 a0_4]) (t := 28) ?hr ?_; (case hd => rfl); (case hg => rfl); (case hr => first | (go_simp; done) | (go_simp; rfl)); intro gb111 hg w28 hbox hb; have n0_ := Aside0.mk (below_step (by repeat (first | (with_reducible first | exact HB.out | apply below_alloc | apply pw_below_drewN | apply below_drew1) | exact HB.out)) hb); have n1_ := Aside0.mk (hbox); have n2_ := Aside0.mk ((by rw [hg]; exact (below_size (by repeat (first | (with_reducible first | exact HB.out | apply below_alloc | apply pw_below_drewN | apply below_drew1) | exact HB.out))) : w.heap.size ≤ gb111)); have n3_ := Aside0.mk ((by rw [hg]; exact (below_size (by repeat (first | (with_reducible first | exact HB.out | apply below_alloc | apply pw_below_drewN | apply below_drew1) | exact HB.out))) : w.heap.size ≤ gb111)); clear HB; have HB := n0_; have BK111 := n1_; have GW111 := n2_; have GE111 := n3_; clear n0_ n1_ n2_ n3_; clear hb hbox hg))
                      have n0_ := Aside0.mk (blk_drew BK111.out)
                      have n1_ := Aside0.mk (below_drew1 HB.out)
                      clear BK111
                      clear HB
                      have BK111 := n0_
                      have HB := n1_
                      clear n0_ n1_
                      refine start_ (n := 21) (S := fun w' => w'.cell? ⟨gb111, 0, none⟩ = some (.int .i64 a0_0) ∧ w'.cell? ⟨gb111, 1, none⟩ = some (.int .i64 a0_1) ∧ w'.cell? ⟨gb111, 2, none⟩ = some (.int .i64 a0_2) ∧ w'.cell? ⟨gb111, 3, none⟩ = some (.int .i64 a0_3) ∧ w'.cell? ⟨gb111, 4, none⟩ = some (.int .i64 a0_4)) (ds := []) #[false, false, false, false, false, false, false, false, false, false, false, false, false, false, false, false, false, false, false, false, false] (by kernel_rfl) rfl rfl ⟨(blk_cell BK111.out 0).trans rfl, (blk_cell BK111.out 1).trans rfl, (blk_cell BK111.out 2).trans rfl, (blk_cell BK111.out 3).trans rfl, (blk_cell BK111.out 4).trans rfl⟩ (fun hHeld => ?_); refine with_tabW spec_l4Text.tab1 spec_l4Text.bits1 (fun HT_ HW_ => ?_)
                      generalize w28.drew = w29 at BK111 HB hHeld ⊢
                      refine pure_ (i := 0) (N := some 4) (v := ?_) (a' := ?_) #[true, false, false, false, false, false, false, false, false, false, false, false, false, false, false, false, false, false, false, false, false] rfl rfl (any_of HT_.out (by kernel_rfl)) (fun _ _ _ h => h) (Or.inl ⟨by rfl, ?_⟩) ?_ ?_
                      rotate_left
                      · intro w'
                        go_simp
                        with_reducible rfl
                      rotate_left
                      · simp only [Act.put, List.setIfInBounds_toArray, List.set_cons_zero, List.set_cons_succ, i64_w, i32_w]
                        rfl
                      refine pure_ (i := 5) (N := some 9) (v := ?_) (a' := ?_) #[true, false, false, false, false, true, false, false, false, false, false, false, false, false, false, false, false, false, false, false, false] rfl rfl (any_of HT_.out (by kernel_rfl)) (fun _ _ _ h => h) (Or.inl ⟨by rfl, ?_⟩) ?_ ?_
                      rotate_left
                      · intro w'
                        go_simp
                        with_reducible rfl
                      rotate_left
                      · simp only [Act.put, List.setIfInBounds_toArray, List.set_cons_zero, List.set_cons_succ, i64_w, i32_w]
                        rfl
                      refine pure_ (i := 10) (N := some 14) (v := ?_) (a' := ?_) #[true, false, false, false, false, true, false, false, false, false, true, false, false, false, false, false, false, false, false, false, false] rfl rfl (any_of HT_.out (by kernel_rfl)) (fun _ _ _ h => h) (Or.inl ⟨by rfl, ?_⟩) ?_ ?_
                      rotate_left
                      · intro w'
                        go_simp
                        with_reducible rfl
                      rotate_left
                      · simp only [Act.put, List.setIfInBounds_toArray, List.set_cons_zero, List.set_cons_succ, i64_w, i32_w]
                        rfl
                      refine pure_ (i := 15) (N := some 19) (v := ?_) (a' := ?_) #[true, false, false, false, false, true, false, false, false, false, true, false, false, false, false, true, false, false, false, false, false] rfl rfl (any_of HT_.out (by kernel_rfl)) (fun _ _ _ h => h) (Or.inl ⟨by rfl, ?_⟩) ?_ ?_
                      rotate_left
                      · intro w'
                        go_simp
                        with_reducible rfl
                      rotate_left
                      · simp only [Act.put, List.setIfInBounds_toArray, List.set_cons_zero, List.set_cons_succ, i64_w, i32_w]
                        rfl
                      refine take_ (i := 1) (N := some 5) (v := ?_) (a' := ?_) #[true, true, false, false, false, true, false, false, false, false, true, false, false, false, false, true, false, false, false, false, false] rfl rfl (take_ofW HT_.out HW_.out (by kernel_rfl)) (fun _ _ _ h => h) (Or.inl ⟨by rfl, ?_⟩) hHeld ?_ ?_
                      rotate_left
                      · rintro w' ⟨s0, s1, s2, s3, s4⟩
                        go_simp
                        with_reducible rfl
                      rotate_left
                      · simp only [Act.put, List.setIfInBounds_toArray, List.set_cons_zero, List.set_cons_succ, i64_w, i32_w]
                        rfl
                      refine take_ (i := 6) (N := some 10) (v := ?_) (a' := ?_) #[true, true, false, false, false, true, true, false, false, false, true, false, false, false, false, true, false, false, false, false, false] rfl rfl (take_ofW HT_.out HW_.out (by kernel_rfl)) (fun _ _ _ h => h) (Or.inl ⟨by rfl, ?_⟩) hHeld ?_ ?_
                      rotate_left
                      · rintro w' ⟨s0, s1, s2, s3, s4⟩
                        go_simp
                        with_reducible rfl
                      rotate_left
                      · simp only [Act.put, List.setIfInBounds_toArray, List.set_cons_zero, List.set_cons_succ, i64_w, i32_w]
                        rfl
                      refine take_ (i := 11) (N := some 15) (v := ?_) (a' := ?_) #[true, true, false, false, false, true, true, false, false, false, true, true, false, false, false, true, false, false, false, false, false] rfl rfl (take_ofW HT_.out HW_.out (by kernel_rfl)) (fun _ _ _ h => h) (Or.inl ⟨by rfl, ?_⟩) hHeld ?_ ?_
                      rotate_left
                      · rintro w' ⟨s0, s1, s2, s3, s4⟩
                        go_simp
                        with_reducible rfl
                      rotate_left
                      · simp only [Act.put, List.setIfInBounds_toArray, List.set_cons_zero, List.set_cons_succ, i64_w, i32_w]
                        rfl
                      refine take_ (i := 16) (N := some 20) (v := ?_) (a' := ?_) #[true, true, false, false, false, true, true, false, false, false, true, true, false, false, false, true, true, false, false, false, false] rfl rfl (take_ofW HT_.out HW_.out (by kernel_rfl)) (fun _ _ _ h => h) (Or.inl ⟨by rfl, ?_⟩) hHeld ?_ ?_
                      rotate_left
                      · rintro w' ⟨s0, s1, s2, s3, s4⟩
                        go_simp
                        with_reducible rfl
                      rotate_left
                      · simp only [Act.put, List.setIfInBounds_toArray, List.set_cons_zero, List.set_cons_succ, i64_w, i32_w]
                        rfl
                      refine one_ (i := 2) (N := some 6) #[true, true, true, false, false, true, true, false, false, false, true, true, false, false, false, true, true, false, false, false, false] rfl rfl (one_of HT_.out (by kernel_rfl)) (by decide) (fun K hK => ?_)
                      refine goes_ Tryd.func30 (by kernel_rfl) rfl #[.int .i64 a0_0] (by rfl) rfl rfl (by (try simp only [List.map_toArray, List.map_cons, List.map_nil]); first | done | rfl | (simp only [List.length_drop, List.length_take]; rfl)) ?_
                      with_reducible refine (spec_l1Num.calls k a0_0 t112 _ A2.out).mono ?_
                      rintro e w30 ⟨rfl, hb⟩
                      refine ⟨_, rfl, ?_⟩
                      have n0_ := Aside0.mk (blk_below (g := gb111) (o := .cells #[.int .i64 a0_0, .int .i64 a0_1, .int .i64 a0_2, .int .i64 a0_3, .int .i64 a0_4] 28 (0, 0)) (by (with_reducible repeat (first | refine blk_drewN ?_ _ | refine blk_drew ?_ | refine blk_alloc ?_ _)); exact BK111.out) hb)
                      have n1_ := Aside0.mk (below_step (by repeat (first | (with_reducible first | exact HB.out | apply below_alloc | apply pw_below_drewN | apply below_drew1 | refine below_set ?_ GE111.out) | exact HB.out)) hb)
                      clear BK111
                      clear HB
                      have BK111 := n0_
                      have HB := n1_
                      clear n0_ n1_
                      (try clear hb)
                      (try clear hb2)
                      (try clear hk)
                      (try clear hi)
                      refine hK.out _ _ ⟨(blk_cell BK111.out 0).trans rfl, (blk_cell BK111.out 1).trans rfl, (blk_cell BK111.out 2).trans rfl, (blk_cell BK111.out 3).trans rfl, (blk_cell BK111.out 4).trans rfl⟩ (fun hHeld => ?_)
                      clear hK K
                      refine norm_ (a' := ?_) ?_ ?_
                      rotate_left
                      · show Act.put _ (some 6) _ = _
                        simp only [Act.put, List.setIfInBounds_toArray, List.set_cons_zero, List.set_cons_succ, i64_w, i32_w]
                        rfl
                      refine pure_ (i := 3) (N := some 7) (v := ?_) (a' := ?_) #[true, true, true, true, false, true, true, false, false, false, true, true, false, false, false, true, true, false, false, false, false] rfl rfl (any_of HT_.out (by kernel_rfl)) (fun _ _ _ h => h) (Or.inl ⟨by rfl, ?_⟩) ?_ ?_
                      rotate_left
                      · intro w'
                        go_simp
                        with_reducible rfl
                      rotate_left
                      · simp only [Act.put, List.setIfInBounds_toArray, List.set_cons_zero, List.set_cons_succ, i64_w, i32_w]
                        rfl
                      refine pure_ (i := 4) (N := some 8) (v := ?_) (a' := ?_) #[true, true, true, true, true, true, true, false, false, false, true, true, false, false, false, true, true, false, false, false, false] rfl rfl (any_of HT_.out (by kernel_rfl)) (fun _ _ _ h => h) (Or.inl ⟨by rfl, ?_⟩) ?_ ?_
                      rotate_left
                      · intro w'
                        go_simp
                        with_reducible rfl
                      rotate_left
                      · simp only [Act.put, List.setIfInBounds_toArray, List.set_cons_zero, List.set_cons_succ, i64_w, i32_w]
                        rfl
                      refine one_ (i := 7) (N := some 11) #[true, true, true, true, true, true, true, true, false, false, true, true, false, false, false, true, true, false, false, false, false] rfl rfl (one_of HT_.out (by kernel_rfl)) (by decide) (fun K hK => ?_)
                      refine goes_ Tryd.func30 (by kernel_rfl) rfl #[.int .i64 a0_1] (by rfl) rfl rfl (by (try simp only [List.map_toArray, List.map_cons, List.map_nil]); first | done | rfl | (simp only [List.length_drop, List.length_take]; rfl)) ?_
                      with_reducible refine (spec_l1Num.calls k a0_1 t113 _ A5.out).mono ?_
                      rintro e w31 ⟨rfl, hb⟩
                      refine ⟨_, rfl, ?_⟩
                      have n0_ := Aside0.mk (blk_below (g := gb111) (o := .cells #[.int .i64 a0_0, .int .i64 a0_1, .int .i64 a0_2, .int .i64 a0_3, .int .i64 a0_4] 28 (0, 0)) (by (with_reducible repeat (first | refine blk_drewN ?_ _ | refine blk_drew ?_ | refine blk_alloc ?_ _)); exact BK111.out) hb)
                      have n1_ := Aside0.mk (below_step (by repeat (first | (with_reducible first | exact HB.out | apply below_alloc | apply pw_below_drewN | apply below_drew1 | refine below_set ?_ GE111.out) | exact HB.out)) hb)
                      clear BK111
                      clear HB
                      have BK111 := n0_
                      have HB := n1_
                      clear n0_ n1_
                      (try clear hb)
                      (try clear hb2)
                      (try clear hk)
                      (try clear hi)
                      refine hK.out _ _ ⟨(blk_cell BK111.out 0).trans rfl, (blk_cell BK111.out 1).trans rfl, (blk_cell BK111.out 2).trans rfl, (blk_cell BK111.out 3).trans rfl, (blk_cell BK111.out 4).trans rfl⟩ (fun hHeld => ?_)
                      clear hK K
                      refine norm_ (a' := ?_) ?_ ?_
                      rotate_left
                      · show Act.put _ (some 11) _ = _
                        simp only [Act.put, List.setIfInBounds_toArray, List.set_cons_zero, List.set_cons_succ, i64_w, i32_w]
                        rfl
                      refine pure_ (i := 8) (N := some 12) (v := ?_) (a' := ?_) #[true, true, true, true, true, true, true, true, true, false, true, true, false, false, false, true, true, false, false, false, false] rfl rfl (any_of HT_.out (by kernel_rfl)) (fun _ _ _ h => h) (Or.inl ⟨by rfl, ?_⟩) ?_ ?_
                      rotate_left
                      · intro w'
                        go_simp
                        with_reducible rfl
                      rotate_left
                      · simp only [Act.put, List.setIfInBounds_toArray, List.set_cons_zero, List.set_cons_succ, i64_w, i32_w]
                        rfl
                      refine pure_ (i := 9) (N := some 13) (v := ?_) (a' := ?_) #[true, true, true, true, true, true, true, true, true, true, true, true, false, false, false, true, true, false, false, false, false] rfl rfl (any_of HT_.out (by kernel_rfl)) (fun _ _ _ h => h) (Or.inl ⟨by rfl, ?_⟩) ?_ ?_
                      rotate_left
                      · intro w'
                        go_simp
                        with_reducible rfl
                      rotate_left
                      · simp only [Act.put, List.setIfInBounds_toArray, List.set_cons_zero, List.set_cons_succ, i64_w, i32_w]
                        rfl
                      refine one_ (i := 12) (N := some 16) #[true, true, true, true, true, true, true, true, true, true, true, true, true, false, false, true, true, false, false, false, false] rfl rfl (one_of HT_.out (by kernel_rfl)) (by decide) (fun K hK => ?_)
                      refine goes_ Tryd.func30 (by kernel_rfl) rfl #[.int .i64 a0_2] (by rfl) rfl rfl (by (try simp only [List.map_toArray, List.map_cons, List.map_nil]); first | done | rfl | (simp only [List.length_drop, List.length_take]; rfl)) ?_
                      with_reducible refine (spec_l1Num.calls k a0_2 t114 _ A8.out).mono ?_
                      rintro e w32 ⟨rfl, hb⟩
                      refine ⟨_, rfl, ?_⟩
                      have n0_ := Aside0.mk (blk_below (g := gb111) (o := .cells #[.int .i64 a0_0, .int .i64 a0_1, .int .i64 a0_2, .int .i64 a0_3, .int .i64 a0_4] 28 (0, 0)) (by (with_reducible repeat (first | refine blk_drewN ?_ _ | refine blk_drew ?_ | refine blk_alloc ?_ _)); exact BK111.out) hb)
                      have n1_ := Aside0.mk (below_step (by repeat (first | (with_reducible first | exact HB.out | apply below_alloc | apply pw_below_drewN | apply below_drew1 | refine below_set ?_ GE111.out) | exact HB.out)) hb)
                      clear BK111
                      clear HB
                      have BK111 := n0_
                      have HB := n1_
                      clear n0_ n1_
                      (try clear hb)
                      (try clear hb2)
                      (try clear hk)
                      (try clear hi)
                      refine hK.out _ _ ⟨(blk_cell BK111.out 0).trans rfl, (blk_cell BK111.out 1).trans rfl, (blk_cell BK111.out 2).trans rfl, (blk_cell BK111.out 3).trans rfl, (blk_cell BK111.out 4).trans rfl⟩ (fun hHeld => ?_)
                      clear hK K
                      refine norm_ (a' := ?_) ?_ ?_
                      rotate_left
                      · show Act.put _ (some 16) _ = _
                        simp only [Act.put, List.setIfInBounds_toArray, List.set_cons_zero, List.set_cons_succ, i64_w, i32_w]
                        rfl
                      refine pure_ (i := 13) (N := some 17) (v := ?_) (a' := ?_) #[true, true, true, true, true, true, true, true, true, true, true, true, true, true, false, true, true, false, false, false, false] rfl rfl (any_of HT_.out (by kernel_rfl)) (fun _ _ _ h => h) (Or.inl ⟨by rfl, ?_⟩) ?_ ?_
                      rotate_left
                      · intro w'
                        go_simp
                        with_reducible rfl
                      rotate_left
                      · simp only [Act.put, List.setIfInBounds_toArray, List.set_cons_zero, List.set_cons_succ, i64_w, i32_w]
                        rfl
                      refine pure_ (i := 14) (N := some 18) (v := ?_) (a' := ?_) #[true, true, true, true, true, true, true, true, true, true, true, true, true, true, true, true, true, false, false, false, false] rfl rfl (any_of HT_.out (by kernel_rfl)) (fun _ _ _ h => h) (Or.inl ⟨by rfl, ?_⟩) ?_ ?_
                      rotate_left
                      · intro w'
                        go_simp
                        with_reducible rfl
                      rotate_left
                      · simp only [Act.put, List.setIfInBounds_toArray, List.set_cons_zero, List.set_cons_succ, i64_w, i32_w]
                        rfl
                      refine one_ (i := 17) (N := some 21) #[true, true, true, true, true, true, true, true, true, true, true, true, true, true, true, true, true, true, false, false, false] rfl rfl (one_of HT_.out (by kernel_rfl)) (by decide) (fun K hK => ?_)
                      refine goes_ Tryd.func30 (by kernel_rfl) rfl #[.int .i64 a0_3] (by rfl) rfl rfl (by (try simp only [List.map_toArray, List.map_cons, List.map_nil]); first | done | rfl | (simp only [List.length_drop, List.length_take]; rfl)) ?_
                      with_reducible refine (spec_l1Num.calls k a0_3 t115 _ A11.out).mono ?_
                      rintro e w33 ⟨rfl, hb⟩
                      refine ⟨_, rfl, ?_⟩
                      have n0_ := Aside0.mk (blk_below (g := gb111) (o := .cells #[.int .i64 a0_0, .int .i64 a0_1, .int .i64 a0_2, .int .i64 a0_3, .int .i64 a0_4] 28 (0, 0)) (by (with_reducible repeat (first | refine blk_drewN ?_ _ | refine blk_drew ?_ | refine blk_alloc ?_ _)); exact BK111.out) hb)
                      have n1_ := Aside0.mk (below_step (by repeat (first | (with_reducible first | exact HB.out | apply below_alloc | apply pw_below_drewN | apply below_drew1 | refine below_set ?_ GE111.out) | exact HB.out)) hb)
                      clear BK111
                      clear HB
                      have BK111 := n0_
                      have HB := n1_
                      clear n0_ n1_
                      (try clear hb)
                      (try clear hb2)
                      (try clear hk)
                      (try clear hi)
                      refine hK.out _ _ ⟨(blk_cell BK111.out 0).trans rfl, (blk_cell BK111.out 1).trans rfl, (blk_cell BK111.out 2).trans rfl, (blk_cell BK111.out 3).trans rfl, (blk_cell BK111.out 4).trans rfl⟩ (fun hHeld => ?_)
                      clear hK K
                      refine norm_ (a' := ?_) ?_ ?_
                      rotate_left
                      · show Act.put _ (some 21) _ = _
                        simp only [Act.put, List.setIfInBounds_toArray, List.set_cons_zero, List.set_cons_succ, i64_w, i32_w]
                        rfl
                      refine pure_ (i := 18) (N := some 22) (v := ?_) (a' := ?_) #[true, true, true, true, true, true, true, true, true, true, true, true, true, true, true, true, true, true, true, false, false] rfl rfl (any_of HT_.out (by kernel_rfl)) (fun _ _ _ h => h) (Or.inl ⟨by rfl, ?_⟩) ?_ ?_
                      rotate_left
                      · intro w'
                        go_simp
                        with_reducible rfl
                      rotate_left
                      · simp only [Act.put, List.setIfInBounds_toArray, List.set_cons_zero, List.set_cons_succ, i64_w, i32_w]
                        rfl
                      refine pure_ (i := 19) (N := some 23) (v := ?_) (a' := ?_) #[true, true, true, true, true, true, true, true, true, true, true, true, true, true, true, true, true, true, true, true, false] rfl rfl (any_of HT_.out (by kernel_rfl)) (fun _ _ _ h => h) (Or.inl ⟨by rfl, ?_⟩) ?_ ?_
                      rotate_left
                      · intro w'
                        go_simp
                        with_reducible rfl
                      rotate_left
                      · simp only [Act.put, List.setIfInBounds_toArray, List.set_cons_zero, List.set_cons_succ, i64_w, i32_w]
                        rfl
                      refine pure_ (i := 20) (N := some 3) (v := ?_) (a' := ?_) #[true, true, true, true, true, true, true, true, true, true, true, true, true, true, true, true, true, true, true, true, true] rfl rfl (any_of HT_.out (by kernel_rfl)) (fun _ _ _ h => h) (Or.inl ⟨by rfl, ?_⟩) ?_ ?_
                      rotate_left
                      · intro w'
                        go_simp
                        with_reducible rfl
                      rotate_left
                      · simp only [Act.put, List.setIfInBounds_toArray, List.set_cons_zero, List.set_cons_succ, i64_w, i32_w]
                        rfl
                      refine done_ (done_of HT_.out (by kernel_rfl)) ?_
                      have hcz34_0 : w33.cell? ⟨gb111, 0, none⟩ = some (.int .i64 a0_0) := (blk_cell BK111.out 0).trans rfl
                      have hcz34_1 : w33.cell? ⟨gb111, 1, none⟩ = some (.int .i64 a0_1) := (blk_cell BK111.out 1).trans rfl
                      have hcz34_2 : w33.cell? ⟨gb111, 2, none⟩ = some (.int .i64 a0_2) := (blk_cell BK111.out 2).trans rfl
                      have hcz34_3 : w33.cell? ⟨gb111, 3, none⟩ = some (.int .i64 a0_3) := (blk_cell BK111.out 3).trans rfl
                      have hcz34_4 : w33.cell? ⟨gb111, 4, none⟩ = some (.int .i64 a0_4) := (blk_cell BK111.out 4).trans rfl
                      have hfz34_0 := blk_frozen BK111.out 0
                      have hfz34_1 := blk_frozen BK111.out 1
                      have hfz34_2 := blk_frozen BK111.out 2
                      have hfz34_3 := blk_frozen BK111.out 3
                      have hfz34_4 := blk_frozen BK111.out 4
                      try go_wp2_with (first | ((with_reducible refine gate_callee (f := 30) rfl ?_); refine goesL_ (some 37) rfl rfl Tryd.func30 (by kernel_rfl) rfl #[.int .i64 a0_4] rfl (by (try simp only [List.map_toArray, List.map_cons, List.map_nil]); first | done | rfl | (simp only [List.length_drop, List.length_take]; rfl)) ?_; (with_reducible refine (spec_l1Num.calls k a0_4 t117 _ A26.out).mono ?_); rintro e w35 ⟨rfl, hb⟩; refine ⟨_, rfl, ?_⟩; have n0_ := Aside0.mk (blk_below (g := gb111) (o := .cells #[.int .i64 a0_0, .int .i64 a0_1, .int .i64 a0_2, .int .i64 a0_3, .int .i64 a0_4] 28 (0, 0)) (by (with_reducible repeat (first | refine blk_drewN ?_ _ | refine blk_drew ?_ | refine blk_alloc ?_ _)); exact BK111.out) hb); have n1_ := Aside0.mk (below_step (by repeat (first | (with_reducible first | exact HB.out | apply below_alloc | apply pw_below_drewN | apply below_drew1 | refine below_set ?_ GE111.out) | exact HB.out)) hb); clear BK111; clear HB; have BK111 := n0_; have HB := n1_; clear n0_ n1_; (try clear hb); (try clear hb2); (try clear hk); (try clear hi)))
                      go_ret
                      exact ⟨by first | rfl | (simp [errW_none, errW_some] <;> rfl) | (simp [*, errW_none, errW_some] <;> rfl), by repeat (first | (with_reducible first | exact HB.out | apply below_alloc | apply pw_below_drewN | apply below_drew1 | refine below_set ?_ GE111.out) | exact HB.out)⟩
                    · rw [if_neg c27] at H
                      exact absurd H (by simp)
                · rw [if_neg c13] at H
                  exact absurd H (by simp)
              · rw [if_neg c12] at H
                exact absurd H (by simp)
            · rw [if_neg c10] at H
              exact absurd H (by simp)
          · rw [if_neg c9] at H
            exact absurd H (by simp)
        · rw [if_neg c7] at H
          exact absurd H (by simp)
      · rw [if_neg c6] at H
        exact absurd H (by simp)
    · rw [if_neg c4] at H
      exact absurd H (by simp)
  · rw [if_neg c3] at H
    exact absurd H (by simp)

/-! ### spec_LegText: function 12 -/
def spec_LegText.f (k : Nat) (a0_0 : Int) (a0_1 : Int) (a0_2 : Int) (a0_3 : Int) (a0_4 : Int) : Option (ByteArray × Bool) := (spec_l4Leg.f a0_0 a0_1 a0_2 a0_3 a0_4).bind fun t119 => (if t119 = true then ((spec_l4Text.f k a0_0 a0_1 a0_2 a0_3 a0_4).bind fun t120 => (some (t120, true))) else (some ((⟨#[]⟩ : ByteArray), false)))
theorem spec_LegText.mono : ∀ a0 a1 a2 a3 a4 k, LeO (spec_LegText.f k a0 a1 a2 a3 a4) (spec_LegText.f (k + 1) a0 a1 a2 a3 a4) := by
  intro a0 a1 a2 a3 a4 k
  unfold spec_LegText.f
  repeat' first
      | (with_reducible exact spec_l4Text.mono _ _ _ _ _ _)
      | (with_reducible exact LeO.refl _)
      | (with_reducible exact LeO.none _)
      | (with_reducible refine LeO.ite ?_ ?_)
      | (with_reducible refine LeO.bind ?_ (fun _ => ?_))
      | exact spec_l4Text.mono _ _ _ _ _ _
      | exact LeO.none _
      | refine LeO.ite ?_ ?_
      | refine LeO.bind ?_ (fun _ => ?_)
set_option maxHeartbeats 8000000 in
set_option maxRecDepth 100000 in
theorem spec_LegText.calls (k : Nat) (a0_0 : Int) (a0_1 : Int) (a0_2 : Int) (a0_3 : Int) (a0_4 : Int) (r1 : ByteArray) (r2 : Bool) (w : World) (h : spec_LegText.f k a0_0 a0_1 a0_2 a0_3 a0_4 = some (r1, r2)) :
    Calls Tryd.prog 12 #[.agg #[.int .i64 a0_0, .int .i64 a0_1, .int .i64 a0_2, .int .i64 a0_3, .int .i64 a0_4]] w fun e w' => e = .returned (.tuple #[.string r1, .bool r2]) ∧ Below w.heap.size w w' := by
  have hu28 := Tryd.underlying28
  have HB := Aside0.mk (Below.refl w.heap.size w)
  have H : ((spec_l4Leg.f a0_0 a0_1 a0_2 a0_3 a0_4).bind fun t119 => (if t119 = true then ((spec_l4Text.f k a0_0 a0_1 a0_2 a0_3 a0_4).bind fun t120 => (some (t120, true))) else (some ((⟨#[]⟩ : ByteArray), false)))) = some (r1, r2) := h
  clear h
  replace H := Option.bind_eq_some_iff.mp H
  obtain ⟨t119, A20, H⟩ := H
  replace H : (if t119 = true then ((spec_l4Text.f k a0_0 a0_1 a0_2 a0_3 a0_4).bind fun t120 => (some (t120, true))) else (some ((⟨#[]⟩ : ByteArray), false))) = some (r1, r2) := H
  have A2 := Aside0.mk A20
  clear A20
  by_cases c3 : t119 = true
  · subst c3
    have H1 : ((spec_l4Text.f k a0_0 a0_1 a0_2 a0_3 a0_4).bind fun t120 => (some (t120, true))) = some (r1, r2) := by rw [if_pos rfl] at H; exact H
    clear H
    have H := H1
    clear H1
    replace H := Option.bind_eq_some_iff.mp H
    obtain ⟨t120, A40, H⟩ := H
    replace H : (some (t120, true)) = some (r1, r2) := H
    have A4 := Aside0.mk A40
    clear A40
    simp only [Option.some.injEq, Prod.mk.injEq] at H
    obtain ⟨rfl, rfl⟩ := H
    go_enter Tryd.func12, Tryd.ntmps12
    go_wp2_with (first | ((with_reducible refine gate_dst (N := 1) rfl ?_); refine box_event ?hg (N := 1) ?hd (cs := #[.int .i64 a0_0, .int .i64 a0_1, .int .i64 a0_2, .int .i64 a0_3, .int .i64 a0_4]) (t := 28) ?hr ?_; (case hd => rfl); (case hg => rfl); (case hr => first | (go_simp; done) | (go_simp; rfl)); intro gb118 hg w5 hbox hb; have n0_ := Aside0.mk (below_step (by repeat (first | (with_reducible first | exact HB.out | apply below_alloc | apply pw_below_drewN | apply below_drew1) | exact HB.out)) hb); have n1_ := Aside0.mk (hbox); have n2_ := Aside0.mk ((by rw [hg]; exact (below_size (by repeat (first | (with_reducible first | exact HB.out | apply below_alloc | apply pw_below_drewN | apply below_drew1) | exact HB.out))) : w.heap.size ≤ gb118)); have n3_ := Aside0.mk ((by rw [hg]; exact (below_size (by repeat (first | (with_reducible first | exact HB.out | apply below_alloc | apply pw_below_drewN | apply below_drew1) | exact HB.out))) : w.heap.size ≤ gb118)); clear HB; have HB := n0_; have BK118 := n1_; have GW118 := n2_; have GE118 := n3_; clear n0_ n1_ n2_ n3_; clear hb hbox hg; have hcz6_0 : w5.cell? ⟨gb118, 0, none⟩ = some (.int .i64 a0_0) := (blk_cell BK118.out 0).trans rfl; have hcz6_1 : w5.cell? ⟨gb118, 1, none⟩ = some (.int .i64 a0_1) := (blk_cell BK118.out 1).trans rfl; have hcz6_2 : w5.cell? ⟨gb118, 2, none⟩ = some (.int .i64 a0_2) := (blk_cell BK118.out 2).trans rfl; have hcz6_3 : w5.cell? ⟨gb118, 3, none⟩ = some (.int .i64 a0_3) := (blk_cell BK118.out 3).trans rfl; have hcz6_4 : w5.cell? ⟨gb118, 4, none⟩ = some (.int .i64 a0_4) := (blk_cell BK118.out 4).trans rfl; have hfz6_0 := blk_frozen BK118.out 0; have hfz6_1 := blk_frozen BK118.out 1; have hfz6_2 := blk_frozen BK118.out 2; have hfz6_3 := blk_frozen BK118.out 3; have hfz6_4 := blk_frozen BK118.out 4) | ((with_reducible refine gate_callee (f := 33) rfl ?_); refine goesL_ (some 5) rfl rfl Tryd.func33 (by kernel_rfl) rfl #[.agg #[.int .i64 a0_0, .int .i64 a0_1, .int .i64 a0_2, .int .i64 a0_3, .int .i64 a0_4]] rfl (by (try simp only [List.map_toArray, List.map_cons, List.map_nil]); first | done | rfl | (simp only [List.length_drop, List.length_take]; rfl)) ?_; (with_reducible refine (spec_l4Leg.calls a0_0 a0_1 a0_2 a0_3 a0_4 true _ A2.out).mono ?_); rintro e w7 ⟨rfl, hb⟩; refine ⟨_, rfl, ?_⟩; have n0_ := Aside0.mk (blk_below (g := gb118) (o := .cells #[.int .i64 a0_0, .int .i64 a0_1, .int .i64 a0_2, .int .i64 a0_3, .int .i64 a0_4] 28 (0, 0)) (by (with_reducible repeat (first | refine blk_drewN ?_ _ | refine blk_drew ?_ | refine blk_alloc ?_ _)); exact BK118.out) hb); have n1_ := Aside0.mk (below_step (by repeat (first | (with_reducible first | exact HB.out | apply below_alloc | apply pw_below_drewN | apply below_drew1 | refine below_set ?_ GE118.out) | exact HB.out)) hb); clear BK118; clear HB; have BK118 := n0_; have HB := n1_; clear n0_ n1_; (try clear hb); (try clear hb2); (try clear hk); (try clear hi); have hcz8_0 : w7.cell? ⟨gb118, 0, none⟩ = some (.int .i64 a0_0) := (blk_cell BK118.out 0).trans rfl; have hcz8_1 : w7.cell? ⟨gb118, 1, none⟩ = some (.int .i64 a0_1) := (blk_cell BK118.out 1).trans rfl; have hcz8_2 : w7.cell? ⟨gb118, 2, none⟩ = some (.int .i64 a0_2) := (blk_cell BK118.out 2).trans rfl; have hcz8_3 : w7.cell? ⟨gb118, 3, none⟩ = some (.int .i64 a0_3) := (blk_cell BK118.out 3).trans rfl; have hcz8_4 : w7.cell? ⟨gb118, 4, none⟩ = some (.int .i64 a0_4) := (blk_cell BK118.out 4).trans rfl; have hfz8_0 := blk_frozen BK118.out 0; have hfz8_1 := blk_frozen BK118.out 1; have hfz8_2 := blk_frozen BK118.out 2; have hfz8_3 := blk_frozen BK118.out 3; have hfz8_4 := blk_frozen BK118.out 4) | ((with_reducible refine gate_callee (f := 34) rfl ?_); refine goesL_ (some 8) rfl rfl Tryd.func34 (by kernel_rfl) rfl #[.agg #[.int .i64 a0_0, .int .i64 a0_1, .int .i64 a0_2, .int .i64 a0_3, .int .i64 a0_4]] rfl (by (try simp only [List.map_toArray, List.map_cons, List.map_nil]); first | done | rfl | (simp only [List.length_drop, List.length_take]; rfl)) ?_; (with_reducible refine (spec_l4Text.calls k a0_0 a0_1 a0_2 a0_3 a0_4 t120 _ A4.out).mono ?_); rintro e w9 ⟨rfl, hb⟩; refine ⟨_, rfl, ?_⟩; have n0_ := Aside0.mk (blk_below (g := gb118) (o := .cells #[.int .i64 a0_0, .int .i64 a0_1, .int .i64 a0_2, .int .i64 a0_3, .int .i64 a0_4] 28 (0, 0)) (by (with_reducible repeat (first | refine blk_drewN ?_ _ | refine blk_drew ?_ | refine blk_alloc ?_ _)); exact BK118.out) hb); have n1_ := Aside0.mk (below_step (by repeat (first | (with_reducible first | exact HB.out | apply below_alloc | apply pw_below_drewN | apply below_drew1 | refine below_set ?_ GE118.out) | exact HB.out)) hb); clear BK118; clear HB; have BK118 := n0_; have HB := n1_; clear n0_ n1_; (try clear hb); (try clear hb2); (try clear hk); (try clear hi)))
    go_ret2
    exact ⟨by first | rfl | (simp [errW_none, errW_some] <;> rfl) | (simp [*, errW_none, errW_some] <;> rfl), by repeat (first | (with_reducible first | exact HB.out | apply below_alloc | apply pw_below_drewN | apply below_drew1 | refine below_set ?_ GE118.out) | exact HB.out)⟩
  · replace c3 := Bool.eq_false_iff.mpr c3
    subst c3
    have H1 : (some ((⟨#[]⟩ : ByteArray), false)) = some (r1, r2) := by rw [if_neg (show ¬ (false = true) by decide)] at H; exact H
    clear H
    have H := H1
    clear H1
    simp only [Option.some.injEq, Prod.mk.injEq] at H
    obtain ⟨rfl, rfl⟩ := H
    go_enter Tryd.func12, Tryd.ntmps12
    go_wp2_with (first | ((with_reducible refine gate_dst (N := 1) rfl ?_); refine box_event ?hg (N := 1) ?hd (cs := #[.int .i64 a0_0, .int .i64 a0_1, .int .i64 a0_2, .int .i64 a0_3, .int .i64 a0_4]) (t := 28) ?hr ?_; (case hd => rfl); (case hg => rfl); (case hr => first | (go_simp; done) | (go_simp; rfl)); intro gb118 hg w10 hbox hb; have n0_ := Aside0.mk (below_step (by repeat (first | (with_reducible first | exact HB.out | apply below_alloc | apply pw_below_drewN | apply below_drew1) | exact HB.out)) hb); have n1_ := Aside0.mk (hbox); have n2_ := Aside0.mk ((by rw [hg]; exact (below_size (by repeat (first | (with_reducible first | exact HB.out | apply below_alloc | apply pw_below_drewN | apply below_drew1) | exact HB.out))) : w.heap.size ≤ gb118)); have n3_ := Aside0.mk ((by rw [hg]; exact (below_size (by repeat (first | (with_reducible first | exact HB.out | apply below_alloc | apply pw_below_drewN | apply below_drew1) | exact HB.out))) : w.heap.size ≤ gb118)); clear HB; have HB := n0_; have BK118 := n1_; have GW118 := n2_; have GE118 := n3_; clear n0_ n1_ n2_ n3_; clear hb hbox hg; have hcz11_0 : w10.cell? ⟨gb118, 0, none⟩ = some (.int .i64 a0_0) := (blk_cell BK118.out 0).trans rfl; have hcz11_1 : w10.cell? ⟨gb118, 1, none⟩ = some (.int .i64 a0_1) := (blk_cell BK118.out 1).trans rfl; have hcz11_2 : w10.cell? ⟨gb118, 2, none⟩ = some (.int .i64 a0_2) := (blk_cell BK118.out 2).trans rfl; have hcz11_3 : w10.cell? ⟨gb118, 3, none⟩ = some (.int .i64 a0_3) := (blk_cell BK118.out 3).trans rfl; have hcz11_4 : w10.cell? ⟨gb118, 4, none⟩ = some (.int .i64 a0_4) := (blk_cell BK118.out 4).trans rfl; have hfz11_0 := blk_frozen BK118.out 0; have hfz11_1 := blk_frozen BK118.out 1; have hfz11_2 := blk_frozen BK118.out 2; have hfz11_3 := blk_frozen BK118.out 3; have hfz11_4 := blk_frozen BK118.out 4) | ((with_reducible refine gate_callee (f := 33) rfl ?_); refine goesL_ (some 5) rfl rfl Tryd.func33 (by kernel_rfl) rfl #[.agg #[.int .i64 a0_0, .int .i64 a0_1, .int .i64 a0_2, .int .i64 a0_3, .int .i64 a0_4]] rfl (by (try simp only [List.map_toArray, List.map_cons, List.map_nil]); first | done | rfl | (simp only [List.length_drop, List.length_take]; rfl)) ?_; (with_reducible refine (spec_l4Leg.calls a0_0 a0_1 a0_2 a0_3 a0_4 false _ A2.out).mono ?_); rintro e w12 ⟨rfl, hb⟩; refine ⟨_, rfl, ?_⟩; have n0_ := Aside0.mk (blk_below (g := gb118) (o := .cells #[.int .i64 a0_0, .int .i64 a0_1, .int .i64 a0_2, .int .i64 a0_3, .int .i64 a0_4] 28 (0, 0)) (by (with_reducible repeat (first | refine blk_drewN ?_ _ | refine blk_drew ?_ | refine blk_alloc ?_ _)); exact BK118.out) hb); have n1_ := Aside0.mk (below_step (by repeat (first | (with_reducible first | exact HB.out | apply below_alloc | apply pw_below_drewN | apply below_drew1 | refine below_set ?_ GE118.out) | exact HB.out)) hb); clear BK118; clear HB; have BK118 := n0_; have HB := n1_; clear n0_ n1_; (try clear hb); (try clear hb2); (try clear hk); (try clear hi)))
    go_ret2
    exact ⟨by first | rfl | (simp [errW_none, errW_some] <;> rfl) | (simp [*, errW_none, errW_some] <;> rfl), by repeat (first | (with_reducible first | exact HB.out | apply below_alloc | apply pw_below_drewN | apply below_drew1 | refine below_set ?_ GE118.out) | exact HB.out)⟩

/-! ### laws_toLeg: function 13 -/
def laws_toLeg.f (a0_0 : Int) (a0_1 : Int) (a0_2 : Int) (a0_3 : Int) (a0_4 : Int) : Option (Int × Int × Int × Int × Int) := some (a0_0, a0_1, a0_2, a0_3, a0_4)
set_option maxHeartbeats 8000000 in
set_option maxRecDepth 100000 in
theorem laws_toLeg.calls (a0_0 : Int) (a0_1 : Int) (a0_2 : Int) (a0_3 : Int) (a0_4 : Int) (r1 : Int) (r2 : Int) (r3 : Int) (r4 : Int) (r5 : Int) (w : World) (h : laws_toLeg.f a0_0 a0_1 a0_2 a0_3 a0_4 = some (r1, r2, r3, r4, r5)) :
    Calls Tryd.prog 13 #[.agg #[.int .i64 a0_0, .int .i64 a0_1, .int .i64 a0_2, .int .i64 a0_3, .int .i64 a0_4]] w fun e w' => e = .returned (.agg #[.int .i64 r1, .int .i64 r2, .int .i64 r3, .int .i64 r4, .int .i64 r5]) ∧ Below w.heap.size w w' := by
  have hu26 := Tryd.underlying26
  have hu28 := Tryd.underlying28
  have HB := Aside0.mk (Below.refl w.heap.size w)
  have H : (some (a0_0, a0_1, a0_2, a0_3, a0_4)) = some (r1, r2, r3, r4, r5) := h
  clear h
  simp only [Option.some.injEq, Prod.mk.injEq] at H
  obtain ⟨rfl, rfl, rfl, rfl, rfl⟩ := H
  go_enter Tryd.func13, Tryd.ntmps13
  go_wp2_with (first | ((with_reducible refine gate_dst (N := 1) rfl ?_); refine box_event ?hg (N := 1) ?hd (cs := #[.int .i64 a0_0, .int .i64 a0_1, .int .i64 a0_2, .int .i64 a0_3, .int .i64 a0_4]) (t := 26) ?hr ?_; (case hd => rfl); (case hg => rfl); (case hr => first | (go_simp; done) | (go_simp; rfl)); intro gb121 hg w2 hbox hb; have n0_ := Aside0.mk (below_step (by repeat (first | (with_reducible first | exact HB.out | apply below_alloc | apply pw_below_drewN | apply below_drew1) | exact HB.out)) hb); have n1_ := Aside0.mk (hbox); have n2_ := Aside0.mk ((by rw [hg]; exact (below_size (by repeat (first | (with_reducible first | exact HB.out | apply below_alloc | apply pw_below_drewN | apply below_drew1) | exact HB.out))) : w.heap.size ≤ gb121)); have n3_ := Aside0.mk ((by rw [hg]; exact (below_size (by repeat (first | (with_reducible first | exact HB.out | apply below_alloc | apply pw_below_drewN | apply below_drew1) | exact HB.out))) : w.heap.size ≤ gb121)); clear HB; have HB := n0_; have BK121 := n1_; have GW121 := n2_; have GE121 := n3_; clear n0_ n1_ n2_ n3_; clear hb hbox hg) | ((with_reducible refine gate_dst (N := 2) rfl ?_); refine box_event ?hg (N := 2) ?hd (cs := #[.int .i64 0, .int .i64 0, .int .i64 0, .int .i64 0, .int .i64 0]) (t := 28) ?hr ?_; (case hd => rfl); (case hg => rfl); (case hr => first | (go_simp; done) | (go_simp; rfl)); intro gb122 hg w3 hbox hb; have n0_ := Aside0.mk (blk_below (g := gb121) (o := .cells #[.int .i64 a0_0, .int .i64 a0_1, .int .i64 a0_2, .int .i64 a0_3, .int .i64 a0_4] 26 (0, 0)) (by (with_reducible repeat (first | refine blk_drewN ?_ _ | refine blk_drew ?_ | refine blk_alloc ?_ _)); exact BK121.out) hb); have n1_ := Aside0.mk (below_step (by repeat (first | (with_reducible first | exact HB.out | apply below_alloc | apply pw_below_drewN | apply below_drew1 | refine below_set ?_ GE121.out) | exact HB.out)) hb); have n2_ := Aside0.mk (hbox); have n3_ := Aside0.mk ((by rw [hg]; exact (below_size (by repeat (first | (with_reducible first | exact HB.out | apply below_alloc | apply pw_below_drewN | apply below_drew1 | refine below_set ?_ GE121.out) | exact HB.out))) : w.heap.size ≤ gb122)); have n4_ := Aside0.mk ((by rw [hg]; exact (below_size (by repeat (first | (with_reducible first | exact HB.out | apply below_alloc | apply pw_below_drewN | apply below_drew1 | refine below_set ?_ GE121.out) | exact HB.out))) : w.heap.size ≤ gb122)); have n5_ := Aside0.mk ((by rw [hg]; exact Nat.ne_of_lt (blk_lt (g := gb121) (o := .cells #[.int .i64 a0_0, .int .i64 a0_1, .int .i64 a0_2, .int .i64 a0_3, .int .i64 a0_4] 26 (0, 0)) (by (with_reducible repeat (first | refine blk_drewN ?_ _ | refine blk_drew ?_ | refine blk_alloc ?_ _)); exact BK121.out)) : gb121 ≠ gb122)); have n6_ := Aside0.mk ((by rw [hg]; exact Nat.ne_of_gt (blk_lt (g := gb121) (o := .cells #[.int .i64 a0_0, .int .i64 a0_1, .int .i64 a0_2, .int .i64 a0_3, .int .i64 a0_4] 26 (0, 0)) (by (with_reducible repeat (first | refine blk_drewN ?_ _ | refine blk_drew ?_ | refine blk_alloc ?_ _)); exact BK121.out)) : gb122 ≠ gb121)); clear BK121; clear HB; have BK121 := n0_; have HB := n1_; have BK122 := n2_; have GW122 := n3_; have GE122 := n4_; have NB121_122 := n5_; have NB122_121 := n6_; clear n0_ n1_ n2_ n3_ n4_ n5_ n6_; clear hb hbox hg) | ((with_reducible refine gate_dst (N := 3) rfl ?_); refine box_event ?hg (N := 3) ?hd (cs := #[.int .i64 0, .int .i64 0, .int .i64 0, .int .i64 0, .int .i64 0]) (t := 28) ?hr ?_; (case hd => rfl); (case hg => rfl); (case hr => first | (go_simp; done) | (go_simp; rfl)); intro gb123 hg w4 hbox hb; have n0_ := Aside0.mk (blk_below (g := gb121) (o := .cells #[.int .i64 a0_0, .int .i64 a0_1, .int .i64 a0_2, .int .i64 a0_3, .int .i64 a0_4] 26 (0, 0)) (by (with_reducible repeat (first | refine blk_drewN ?_ _ | refine blk_drew ?_ | refine blk_alloc ?_ _)); exact BK121.out) hb); have n1_ := Aside0.mk (blk_below (g := gb122) (o := .cells #[.int .i64 0, .int .i64 0, .int .i64 0, .int .i64 0, .int .i64 0] 28 (0, 0)) (by (with_reducible repeat (first | refine blk_drewN ?_ _ | refine blk_drew ?_ | refine blk_alloc ?_ _)); exact BK122.out) hb); have n2_ := Aside0.mk (below_step (by repeat (first | (with_reducible first | exact HB.out | apply below_alloc | apply pw_below_drewN | apply below_drew1 | refine below_set ?_ GE121.out | refine below_set ?_ GE122.out) | exact HB.out)) hb); have n3_ := Aside0.mk (hbox); have n4_ := Aside0.mk ((by rw [hg]; exact (below_size (by repeat (first | (with_reducible first | exact HB.out | apply below_alloc | apply pw_below_drewN | apply below_drew1 | refine below_set ?_ GE121.out | refine below_set ?_ GE122.out) | exact HB.out))) : w.heap.size ≤ gb123)); have n5_ := Aside0.mk ((by rw [hg]; exact (below_size (by repeat (first | (with_reducible first | exact HB.out | apply below_alloc | apply pw_below_drewN | apply below_drew1 | refine below_set ?_ GE121.out | refine below_set ?_ GE122.out) | exact HB.out))) : w.heap.size ≤ gb123)); have n6_ := Aside0.mk ((by rw [hg]; exact Nat.ne_of_lt (blk_lt (g := gb121) (o := .cells #[.int .i64 a0_0, .int .i64 a0_1, .int .i64 a0_2, .int .i64 a0_3, .int .i64 a0_4] 26 (0, 0)) (by (with_reducible repeat (first | refine blk_drewN ?_ _ | refine blk_drew ?_ | refine blk_alloc ?_ _)); exact BK121.out)) : gb121 ≠ gb123)); have n7_ := Aside0.mk ((by rw [hg]; exact Nat.ne_of_gt (blk_lt (g := gb121) (o := .cells #[.int .i64 a0_0, .int .i64 a0_1, .int .i64 a0_2, .int .i64 a0_3, .int .i64 a0_4] 26 (0, 0)) (by (with_reducible repeat (first | refine blk_drewN ?_ _ | refine blk_drew ?_ | refine blk_alloc ?_ _)); exact BK121.out)) : gb123 ≠ gb121)); have n8_ := Aside0.mk ((by rw [hg]; exact Nat.ne_of_lt (blk_lt (g := gb122) (o := .cells #[.int .i64 0, .int .i64 0, .int .i64 0, .int .i64 0, .int .i64 0] 28 (0, 0)) (by (with_reducible repeat (first | refine blk_drewN ?_ _ | refine blk_drew ?_ | refine blk_alloc ?_ _)); exact BK122.out)) : gb122 ≠ gb123)); have n9_ := Aside0.mk ((by rw [hg]; exact Nat.ne_of_gt (blk_lt (g := gb122) (o := .cells #[.int .i64 0, .int .i64 0, .int .i64 0, .int .i64 0, .int .i64 0] 28 (0, 0)) (by (with_reducible repeat (first | refine blk_drewN ?_ _ | refine blk_drew ?_ | refine blk_alloc ?_ _)); exact BK122.out)) : gb123 ≠ gb122)); clear BK121; clear BK122; clear HB; have BK121 := n0_; have BK122 := n1_; have HB := n2_; have BK123 := n3_; have GW123 := n4_; have GE123 := n5_; have NB121_123 := n6_; have NB123_121 := n7_; have NB122_123 := n8_; have NB123_122 := n9_; clear n0_ n1_ n2_ n3_ n4_ n5_ n6_ n7_ n8_ n9_; clear hb hbox hg; have hnb5 := NB121_122.out; have hnc5 := NB122_121.out; have hnb6 := NB121_123.out; have hnc6 := NB123_121.out; have hcz7_0 : w4.cell? ⟨gb121, 0, none⟩ = some (.int .i64 a0_0) := (blk_cell BK121.out 0).trans rfl; have hcz7_1 : w4.cell? ⟨gb121, 1, none⟩ = some (.int .i64 a0_1) := (blk_cell BK121.out 1).trans rfl; have hcz7_2 : w4.cell? ⟨gb121, 2, none⟩ = some (.int .i64 a0_2) := (blk_cell BK121.out 2).trans rfl; have hcz7_3 : w4.cell? ⟨gb121, 3, none⟩ = some (.int .i64 a0_3) := (blk_cell BK121.out 3).trans rfl; have hcz7_4 : w4.cell? ⟨gb121, 4, none⟩ = some (.int .i64 a0_4) := (blk_cell BK121.out 4).trans rfl; have hfz7_0 := blk_frozen BK121.out 0; have hfz7_1 := blk_frozen BK121.out 1; have hfz7_2 := blk_frozen BK121.out 2; have hfz7_3 := blk_frozen BK121.out 3; have hfz7_4 := blk_frozen BK121.out 4; have hnb8 := NB123_122.out; have hnc8 := NB122_123.out; have hcz9_0 : w4.cell? ⟨gb123, 0, none⟩ = some (.int .i64 0) := (blk_cell BK123.out 0).trans rfl; have hcz9_1 : w4.cell? ⟨gb123, 1, none⟩ = some (.int .i64 0) := (blk_cell BK123.out 1).trans rfl; have hcz9_2 : w4.cell? ⟨gb123, 2, none⟩ = some (.int .i64 0) := (blk_cell BK123.out 2).trans rfl; have hcz9_3 : w4.cell? ⟨gb123, 3, none⟩ = some (.int .i64 0) := (blk_cell BK123.out 3).trans rfl; have hcz9_4 : w4.cell? ⟨gb123, 4, none⟩ = some (.int .i64 0) := (blk_cell BK123.out 4).trans rfl; have hfz9_0 := blk_frozen BK123.out 0; have hfz9_1 := blk_frozen BK123.out 1; have hfz9_2 := blk_frozen BK123.out 2; have hfz9_3 := blk_frozen BK123.out 3; have hfz9_4 := blk_frozen BK123.out 4; have hcz10_0 : w4.cell? ⟨gb122, 0, none⟩ = some (.int .i64 0) := (blk_cell BK122.out 0).trans rfl; have hcz10_1 : w4.cell? ⟨gb122, 1, none⟩ = some (.int .i64 0) := (blk_cell BK122.out 1).trans rfl; have hcz10_2 : w4.cell? ⟨gb122, 2, none⟩ = some (.int .i64 0) := (blk_cell BK122.out 2).trans rfl; have hcz10_3 : w4.cell? ⟨gb122, 3, none⟩ = some (.int .i64 0) := (blk_cell BK122.out 3).trans rfl; have hcz10_4 : w4.cell? ⟨gb122, 4, none⟩ = some (.int .i64 0) := (blk_cell BK122.out 4).trans rfl; have hfz10_0 := blk_frozen BK122.out 0; have hfz10_1 := blk_frozen BK122.out 1; have hfz10_2 := blk_frozen BK122.out 2; have hfz10_3 := blk_frozen BK122.out 3; have hfz10_4 := blk_frozen BK122.out 4))
  refine bodyPost_ret (results_cell_row rfl _ _ gb122 28 #[.int .i64 a0_0, .int .i64 a0_1, .int .i64 a0_2, .int .i64 a0_3, .int .i64 a0_4] (0, 0) _ rfl (by (with_reducible repeat (first | refine blk_drewN ?_ _ | refine blk_drew ?_ | refine blk_alloc ?_ _)); refine blk_put (cs := #[.int .i64 a0_0, .int .i64 a0_1, .int .i64 a0_2, .int .i64 a0_3, .int .i64 0]) ?_ 4 _ rfl; (with_reducible repeat (first | refine blk_drewN ?_ _ | refine blk_drew ?_ | refine blk_alloc ?_ _)); refine blk_put (cs := #[.int .i64 a0_0, .int .i64 a0_1, .int .i64 a0_2, .int .i64 0, .int .i64 0]) ?_ 3 _ rfl; (with_reducible repeat (first | refine blk_drewN ?_ _ | refine blk_drew ?_ | refine blk_alloc ?_ _)); refine blk_put (cs := #[.int .i64 a0_0, .int .i64 a0_1, .int .i64 0, .int .i64 0, .int .i64 0]) ?_ 2 _ rfl; (with_reducible repeat (first | refine blk_drewN ?_ _ | refine blk_drew ?_ | refine blk_alloc ?_ _)); refine blk_put (cs := #[.int .i64 a0_0, .int .i64 0, .int .i64 0, .int .i64 0, .int .i64 0]) ?_ 1 _ rfl; (with_reducible repeat (first | refine blk_drewN ?_ _ | refine blk_drew ?_ | refine blk_alloc ?_ _)); refine blk_put (cs := #[.int .i64 0, .int .i64 0, .int .i64 0, .int .i64 0, .int .i64 0]) ?_ 0 _ rfl; (with_reducible repeat (first | refine blk_drewN ?_ _ | refine blk_drew ?_ | refine blk_alloc ?_ _)); refine blk_far ?_ NB122_123.out _; (with_reducible repeat (first | refine blk_drewN ?_ _ | refine blk_drew ?_ | refine blk_alloc ?_ _)); refine blk_far ?_ NB122_123.out _; (with_reducible repeat (first | refine blk_drewN ?_ _ | refine blk_drew ?_ | refine blk_alloc ?_ _)); refine blk_far ?_ NB122_123.out _; (with_reducible repeat (first | refine blk_drewN ?_ _ | refine blk_drew ?_ | refine blk_alloc ?_ _)); refine blk_far ?_ NB122_123.out _; (with_reducible repeat (first | refine blk_drewN ?_ _ | refine blk_drew ?_ | refine blk_alloc ?_ _)); refine blk_far ?_ NB122_123.out _; (with_reducible repeat (first | refine blk_drewN ?_ _ | refine blk_drew ?_ | refine blk_alloc ?_ _)); exact BK122.out) Tryd.underlying28 rfl (by kernel_rfl)) rfl ?_
  exact ⟨by first | rfl | (simp [errW_none, errW_some] <;> rfl) | (simp [*, errW_none, errW_some] <;> rfl), by repeat (first | (with_reducible first | exact HB.out | apply below_alloc | apply pw_below_drewN | apply below_drew1 | refine below_set ?_ GE121.out | refine below_set ?_ GE122.out | refine below_set ?_ GE123.out) | exact HB.out)⟩

/-! ### impl_within: function 31 -/
def impl_within.f (a0 : Int) (a1 : Int) (a2 : Int) : Option (Bool) := if a0 ≥ a1 then (some (decide (a0 ≤ a2))) else (some false)
set_option maxHeartbeats 8000000 in
set_option maxRecDepth 100000 in
theorem impl_within.calls (a0 : Int) (a1 : Int) (a2 : Int) (r : Bool) (w : World) (h : impl_within.f a0 a1 a2 = some r) :
    Calls Tryd.prog 31 #[.int .i64 a0, .int .i64 a1, .int .i64 a2] w fun e w' => e = .returned (.bool r) ∧ Drawn0 w w' := by
  have H : (if a0 ≥ a1 then (some (decide (a0 ≤ a2))) else (some false)) = some r := h
  clear h
  by_cases c4 : a0 ≥ a1
  · rw [if_pos c4] at H
    have c4b0 : decide (a1 ≤ a0) = true := decide_eq_true c4
    clear c4
    obtain rfl := Option.some.inj H
    go_enter Tryd.func31, Tryd.ntmps31
    go_wp2
    go_ret
    exact ⟨by first | rfl | (simp; done) | (simp [*]; done), by repeat (first | exact Drawn0.refl _ | apply Drawn0.step)⟩
  · rw [if_neg c4] at H
    have c4b0 : decide (a1 ≤ a0) = false := decide_eq_false c4
    clear c4
    obtain rfl := Option.some.inj H
    go_enter Tryd.func31, Tryd.ntmps31
    go_wp2
    go_ret
    exact ⟨by first | rfl | (simp; done) | (simp [*]; done), by repeat (first | exact Drawn0.refl _ | apply Drawn0.step)⟩

/-! ### impl_isStation: function 55 -/
def impl_isStation.f (a0 : Int) : Option (Bool) := (impl_within.f a0 0 7).bind fun t124 => (some t124)
set_option maxHeartbeats 8000000 in
set_option maxRecDepth 100000 in
theorem impl_isStation.calls (a0 : Int) (r : Bool) (w : World) (h : impl_isStation.f a0 = some r) :
    Calls Tryd.prog 55 #[.int .i64 a0] w fun e w' => e = .returned (.bool r) ∧ Drawn0 w w' := by
  have H : ((impl_within.f a0 0 7).bind fun t124 => (some t124)) = some r := h
  clear h
  replace H := Option.bind_eq_some_iff.mp H
  obtain ⟨t124, A20, H⟩ := H
  replace H : (some t124) = some r := H
  have A2 := Aside0.mk A20
  clear A20
  obtain rfl := Option.some.inj H
  go_enter Tryd.func55, Tryd.ntmps55
  go_wp2_with (first | ((with_reducible refine gate_callee (f := 31) rfl ?_); refine goesL_ (some 4) rfl rfl Tryd.func31 (by kernel_rfl) rfl #[.int .i64 a0, .int .i64 0, .int .i64 7] rfl (by (try simp only [List.map_toArray, List.map_cons, List.map_nil]); first | done | rfl | (simp only [List.length_drop, List.length_take]; rfl)) ?_; (with_reducible refine (impl_within.calls a0 0 7 t124 _ A2.out).mono ?_); rintro e w' ⟨rfl, ⟨nd, rfl⟩⟩; refine ⟨_, rfl, ?_⟩))
  go_ret
  exact ⟨by first | rfl | (simp; done) | (simp [*]; done), by repeat (first | exact Drawn0.refl _ | apply Drawn0.step)⟩

/-! ### impl_isBearing: function 56 -/
def impl_isBearing.f (a0 : Int) : Option (Bool) := (impl_within.f a0 0 359).bind fun t125 => (some t125)
set_option maxHeartbeats 8000000 in
set_option maxRecDepth 100000 in
theorem impl_isBearing.calls (a0 : Int) (r : Bool) (w : World) (h : impl_isBearing.f a0 = some r) :
    Calls Tryd.prog 56 #[.int .i64 a0] w fun e w' => e = .returned (.bool r) ∧ Drawn0 w w' := by
  have H : ((impl_within.f a0 0 359).bind fun t125 => (some t125)) = some r := h
  clear h
  replace H := Option.bind_eq_some_iff.mp H
  obtain ⟨t125, A20, H⟩ := H
  replace H : (some t125) = some r := H
  have A2 := Aside0.mk A20
  clear A20
  obtain rfl := Option.some.inj H
  go_enter Tryd.func56, Tryd.ntmps56
  go_wp2_with (first | ((with_reducible refine gate_callee (f := 31) rfl ?_); refine goesL_ (some 4) rfl rfl Tryd.func31 (by kernel_rfl) rfl #[.int .i64 a0, .int .i64 0, .int .i64 359] rfl (by (try simp only [List.map_toArray, List.map_cons, List.map_nil]); first | done | rfl | (simp only [List.length_drop, List.length_take]; rfl)) ?_; (with_reducible refine (impl_within.calls a0 0 359 t125 _ A2.out).mono ?_); rintro e w' ⟨rfl, ⟨nd, rfl⟩⟩; refine ⟨_, rfl, ?_⟩))
  go_ret
  exact ⟨by first | rfl | (simp; done) | (simp [*]; done), by repeat (first | exact Drawn0.refl _ | apply Drawn0.step)⟩

end Go.Proofs.YtcmccjiimiomhaaDoor.XFnExactLegText
