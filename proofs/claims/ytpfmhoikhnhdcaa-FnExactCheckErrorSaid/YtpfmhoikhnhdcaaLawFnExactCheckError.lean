/- The law FnExactCheckError, for all its arguments: the row out of its pure statement and the printed contract. -/
import Derived.Test.YtpfmhoikhnhdcaaRows
import Derived.Test.YtpfmhoikhnhdcaaPFnExactCheckErrorx5
import Derived.Test.YtpfmhoikhnhdcaaAskFnExactCheckError
import Derived.Test.YtpfmhoikhnhdcaaPureFnExactCheckError
import Derived.Test.YtpfmhoikhnhdcaaOpen
import Derived.WalkKit
import Derived.ProofKit
import Derived.OpenShut
import Derived.ShutString
import Derived.ChangeOld
import Derived.Below
import Derived.SizedLaws
namespace Go.Proofs.Ytpfmhoikhnhdcaa.fnExactCheckError
open Go.ChangeShapes Go.WideShapes Go.ChangeAt Go.RowKit Go.Deep
open Go.ChangeMaps (open_string shut_string)
open Go.Proofs.Ytpfmhoikhnhdcaa.PFnExactCheckError Go.Proofs.Ytpfmhoikhnhdcaa.AskFnExactCheckError Go.Proofs.Ytpfmhoikhnhdcaa.Open Go.Proofs.YtpfmhoikhnhdcaaW.PrintWords
set_option linter.unusedVariables false
theorem own : ownKnob Try.prog.godebug = none := by kernel_rfl
theorem laidOut : laidOutB Try.prog = true := by kernel_rfl
set_option maxRecDepth 100000 in
theorem arg_S39 {H : Type} {enc : TypeId × Value → H} {w : World} {r : Reach} {b0 base : Nat} {spare : Nat → Bool} {held : Bool} {v : Value} {d : DataW H} {p : List MemPlace} (hv : Value.okWide Try.prog w r b0 39 v) (h : DataW.Trod enc Try.prog w base spare held 39 v d p) :
    ∃ (x0 : Int) (x1 : Int) (x2 : Int) (x3 : Int), v = .agg #[.int .i64 x0, .int .i64 x1, .int .i64 x2, .int .i64 x3] ∧ (Lit.int .i64 x0).wf = true ∧ (Lit.int .i64 x1).wf = true ∧ (Lit.int .i64 x2).wf = true ∧ (Lit.int .i64 x3).wf = true := by
  obtain ⟨cs, rfl, _⟩ := okWide_struct Try.underlying39 hv
  obtain ⟨fuel, hf0⟩ := h
  obtain ⟨l⟩ := cs
  obtain ⟨hlen, m, hf⟩ := struct_reads Try.underlying39 (by kernel_rfl) (show Try.prog.cellsOf 39 = 4 by kernel_rfl) hf0
  have el : (Value.agg ⟨l⟩).cells.toList = l := by simp [Value.cells]
  rw [el] at hlen hf
  obtain ⟨v0, y0, e0, t0⟩ := hf 0 _ rfl
  obtain ⟨x0, K0, w0⟩ := (opens_int Try.underlying3) _ _ _ _ _ _ t0
  obtain rfl : v0 = .int .i64 x0 := by simpa [Kd.int, Kd.string, Kd.bool, Kd.scalar] using K0
  obtain ⟨v1, y1, e1, t1⟩ := hf 1 _ rfl
  obtain ⟨x1, K1, w1⟩ := (opens_int Try.underlying3) _ _ _ _ _ _ t1
  obtain rfl : v1 = .int .i64 x1 := by simpa [Kd.int, Kd.string, Kd.bool, Kd.scalar] using K1
  obtain ⟨v2, y2, e2, t2⟩ := hf 2 _ rfl
  obtain ⟨x2, K2, w2⟩ := (opens_int Try.underlying3) _ _ _ _ _ _ t2
  obtain rfl : v2 = .int .i64 x2 := by simpa [Kd.int, Kd.string, Kd.bool, Kd.scalar] using K2
  obtain ⟨v3, y3, e3, t3⟩ := hf 3 _ rfl
  obtain ⟨x3, K3, w3⟩ := (opens_int Try.underlying3) _ _ _ _ _ _ t3
  obtain rfl : v3 = .int .i64 x3 := by simpa [Kd.int, Kd.string, Kd.bool, Kd.scalar] using K3
  obtain rfl : l = [.int .i64 x0, .int .i64 x1, .int .i64 x2, .int .i64 x3] := by
    match l, hlen with
    | [c0, c1, c2, c3], _ => simp_all
  exact ⟨x0, x1, x2, x3, rfl, w0, w1, w2, w3⟩
set_option maxRecDepth 100000 in
theorem arg_S41 {H : Type} {enc : TypeId × Value → H} {w : World} {r : Reach} {b0 base : Nat} {spare : Nat → Bool} {held : Bool} {v : Value} {d : DataW H} {p : List MemPlace} (hv : Value.okWide Try.prog w r b0 41 v) (h : DataW.Trod enc Try.prog w base spare held 41 v d p) :
    ∃ (x0 : Int) (x1 : Int), v = .agg #[.int .i64 x0, .int .i64 x1] ∧ (Lit.int .i64 x0).wf = true ∧ (Lit.int .i64 x1).wf = true := by
  obtain ⟨cs, rfl, _⟩ := okWide_struct Try.underlying41 hv
  obtain ⟨fuel, hf0⟩ := h
  obtain ⟨l⟩ := cs
  obtain ⟨hlen, m, hf⟩ := struct_reads Try.underlying41 (by kernel_rfl) (show Try.prog.cellsOf 41 = 2 by kernel_rfl) hf0
  have el : (Value.agg ⟨l⟩).cells.toList = l := by simp [Value.cells]
  rw [el] at hlen hf
  obtain ⟨v0, y0, e0, t0⟩ := hf 0 _ rfl
  obtain ⟨x0, K0, w0⟩ := (opens_int Try.underlying3) _ _ _ _ _ _ t0
  obtain rfl : v0 = .int .i64 x0 := by simpa [Kd.int, Kd.string, Kd.bool, Kd.scalar] using K0
  obtain ⟨v1, y1, e1, t1⟩ := hf 1 _ rfl
  obtain ⟨x1, K1, w1⟩ := (opens_int Try.underlying3) _ _ _ _ _ _ t1
  obtain rfl : v1 = .int .i64 x1 := by simpa [Kd.int, Kd.string, Kd.bool, Kd.scalar] using K1
  obtain rfl : l = [.int .i64 x0, .int .i64 x1] := by
    match l, hlen with
    | [c0, c1], _ => simp_all
  exact ⟨x0, x1, rfl, w0, w1⟩
set_option maxRecDepth 100000 in
theorem lifted (os : Os) (started : os.Started) (H : Type) (enc : TypeId × Value → H) :
    ReturnsInHanded {} Try.checked os 6 .any (Rows.fnExactCheckErrorSpec.pre6 enc Try.prog Try.f6 Rows.fnExactCheckErrorRow.domain false) (Rows.fnExactCheckErrorSpec.post enc Try.prog Try.f6 false true false false) := by
  refine returnsInHanded_of_change_sized (C := Try.checked) own started (by kernel_rfl) Try.func6
    (ChangeSpec.witness6 (enc := enc) (C := Try.checked) false ⟨#[], #[.agg #[.int .i64 0, .int .i64 0, .int .i64 0, .int .i64 0], .agg #[.int .i64 0, .int .i64 0]], []⟩ 8 (by kernel_rfl) (by kernel_rfl) (by kernel_rfl) (by kernel_rfl)) ?_
  intro W base args ds gs before hval0 hW hcnd hsz0 _
  have hsz : (DataW.weightsEach Try.prog (Try.f6.params.toList ++ Rows.fnExactCheckErrorSpec.plain.varTypes Try.prog) (ds ++ gs)).all (· ≤ reachBytes) = true := hsz0
  have hval : ∀ (j : Nat) t v, Try.f6.params[j]? = some t → args[j]? = some v → Value.okWide Try.prog W .any base t v := hval0
  have hW' := hW
  obtain ⟨p, q, hA0, hV, rfl, hfz, hnd⟩ := hW
  have hA : DataW.TrodAll enc Try.prog W 0 (fun _ => true) true Try.f6.params.toList args.toList ds p := hA0
  rw [Try.params6] at hA hval hsz
  obtain ⟨v0, vs0, d0, ds0, p0, q0, hargs, rfl, rfl, h0, r0⟩ := trodAll_cons hA
  obtain ⟨v1, vs1, d1, ds1, p1, q1, rfl, rfl, rfl, h1, r1⟩ := trodAll_cons r0
  obtain ⟨rfl, rfl, rfl⟩ := trodAll_nil r1
  obtain rfl : args = #[v0, v1] := by cases args; simp_all
  obtain ⟨rfl, rfl⟩ := trodVars_none hV
  have k0_ := h0
  have lt0 : ∀ x ∈ p0, x.block < W.heap.size := by obtain ⟨m, hm⟩ := k0_; exact DataW.trod_lt m _ _ _ hm
  obtain ⟨a0_0, a0_1, a0_2, a0_3, rfl, w0_0, w0_1, w0_2, w0_3⟩ := arg_S39 (hval 0 39 v0 rfl rfl) h0
  have k1_ := h1
  have lt1 : ∀ x ∈ p1, x.block < W.heap.size := by obtain ⟨m, hm⟩ := k1_; exact DataW.trod_lt m _ _ _ hm
  obtain ⟨a1_0, a1_1, rfl, w1_0, w1_1⟩ := arg_S41 (hval 1 41 v1 rfl rfl) h1
  clear hA0 hval0 hsz0 hsz
  obtain ⟨k, hk⟩ := Pure.FnExactCheckError a0_0 a0_1 a0_2 a0_3 a1_0 a1_1 w0_0 w0_1 w0_2 w0_3 w1_0 w1_1
  refine (laws_FnExactCheckError.calls k a0_0 a0_1 a0_2 a0_3 a1_0 a1_1 true W  hk).mono fun e W' ⟨he, hd⟩ => ?_
  have bel : Below W.heap.size W W' := hd
  subst he
  exact ⟨_, rfl, _, _, _, [], _, [], hW', trodAll_mk1 (shut_bool Try.underlying4 _), (trodAll_cons_mk (Below.trod laidOut (by kernel_rfl) (of_decide_eq_true (by kernel_rfl)) k0_ bel lt0) (trodAll_cons_mk (Below.trod laidOut (by kernel_rfl) (of_decide_eq_true (by kernel_rfl)) k1_ bel lt1) trodAll_mk0)), rfl, bel.frame _, fun h => by cases h⟩
theorem over : Rows.fnExactCheckErrorRow.holds Try.pinned (OpenSpec.ofChange Rows.fnExactCheckErrorSpec) :=
  OpenClaim.holds_of_wide 6 Try.f6 rfl rfl rfl rfl rfl rfl rfl ⟨rfl, rfl, rfl, rfl, rfl⟩ rfl rfl rfl rfl rfl (by kernel_rfl) Try.func6 (by kernel_rfl)
    (of_decide_eq_true (by kernel_rfl)) (by unfold Func.isWrapper; first | (rw [if_pos (by decide +kernel)]; kernel_rfl) | (rw [if_neg (by decide +kernel)]; exact ⟨rfl, rfl⟩))
    (fun os started H enc _ => lifted os started H enc)
theorem proved : Rows.FnExactCheckErrorSaid := over
#print axioms proved
end Go.Proofs.Ytpfmhoikhnhdcaa.fnExactCheckError
namespace Go.Proofs.Ytpfmhoikhnhdcaa
/-- The row, under a short name, for the claim. -/
theorem fnExactCheckError_holds : Rows.FnExactCheckErrorSaid := fnExactCheckError.proved
end Go.Proofs.Ytpfmhoikhnhdcaa
