/- Contracts of the functions that the law FnTeams comes to: each is told as a plain function of its arguments, and the machine's call does what that function says; no condition. Written by programs (print.py, xprint.py); Lean checks it. -/
import Derived.Test.YtafdklajmklmkaaGreatDoorXFnTeamsx0
namespace Go.Proofs.YtafdklajmklmkaaGreatDoor.XFnTeams
open Go.RowKit Go.Proofs.YtafdklajmklmkaaGreatDoorW.PrintWords Go.Proofs.YtafdklajmklmkaaGreatDoorW.PrintLast Go.Proofs.YtafdklajmklmkaaGreatDoorW.PrintMore
attribute [local go_sem] max2_int min2_int max_two min_two max_three min_three max_four min_four   -- for this text's walks alone
set_option linter.unusedVariables false
set_option linter.unusedSimpArgs false

theorem eqA41 (d : Nat) (w : World) (x0 y0 : Int) (x1 y1 : ByteArray) (x2 y2 : Int) (x3 y3 : Int) :
  (Op.equalIn (d + 2) 41 (.agg #[.int .i64 x0, .string x1, .int .i64 x2, .int .i64 x3]) (.agg #[.int .i64 y0, .string y1, .int .i64 y2, .int .i64 y3])).run Tryz.prog w = .ok (x0 == y0 && (x1.toList == y1.toList && (x2 == y2 && (x3 == y3)))) w := by
 refine eqA_of Tryz.underlying41 (by kernel_rfl) ?_
 refine eqf_cons (by rfl) (by go_simp; rfl) (by go_simp; rfl) (by go_simp) ?_
 refine eqf_cons (by rfl) (by go_simp; rfl) (by go_simp; rfl) (by go_simp) ?_
 refine eqf_cons (by rfl) (by go_simp; rfl) (by go_simp; rfl) (by go_simp) ?_
 exact eqf_last (by rfl) (by go_simp; rfl) (by go_simp; rfl) (by go_simp)
end Go.Proofs.YtafdklajmklmkaaGreatDoor.XFnTeams
