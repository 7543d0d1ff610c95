/- The law FnExactLegsAt, for all its arguments: the row out of its pure statement and the printed contract. -/
import Derived.Test.YtpfmhoikhnhdcaaRows
import Derived.Test.YtpfmhoikhnhdcaaPFnExactLegsAtx4
import Derived.Test.YtpfmhoikhnhdcaaAskFnExactLegsAt
import Derived.Test.YtpfmhoikhnhdcaaPureFnExactLegsAt
import Derived.Test.YtpfmhoikhnhdcaaOpen
import Derived.WalkKit
import Derived.ProofKit
import Derived.OpenShut
import Derived.ShutString
import Derived.ChangeOld
import Derived.Below
import Derived.SizedLaws
namespace Go.Proofs.Ytpfmhoikhnhdcaa.fnExactLegsAt
open Go.ChangeShapes Go.WideShapes Go.ChangeAt Go.RowKit Go.Deep
open Go.ChangeMaps (open_string shut_string)
open Go.Proofs.Ytpfmhoikhnhdcaa.PFnExactLegsAt Go.Proofs.Ytpfmhoikhnhdcaa.AskFnExactLegsAt Go.Proofs.Ytpfmhoikhnhdcaa.Open Go.Proofs.YtpfmhoikhnhdcaaW.PrintWords
set_option linter.unusedVariables false
theorem own : ownKnob Try.prog.godebug = none := by kernel_rfl
theorem laidOut : laidOutB Try.prog = true := by kernel_rfl
theorem cells115 : Try.prog.cellsOf 115 = 5 := by kernel_rfl
theorem opens_S115 {H : Type} {enc : TypeId × Value → H} {w : World} : Opens enc Try.prog w 115 k115 WfS115 := by
  intro base spare held n cs x h
  obtain ⟨hlen, m, hf⟩ := struct_reads Try.underlying115 (by kernel_rfl) cells115 h
  obtain ⟨v0, y0, e0, t0⟩ := hf 0 _ rfl
  obtain ⟨x0, K0, w0⟩ := (opens_int Try.underlying3) _ _ _ _ _ _ t0
  obtain rfl : v0 = .int .i64 x0 := by simpa [Kd.int, Kd.string, Kd.bool, Kd.scalar] using K0
  obtain ⟨v1, y1, e1, t1⟩ := hf 1 _ rfl
  obtain ⟨x1, K1, w1⟩ := (opens_int Try.underlying3) _ _ _ _ _ _ t1
  obtain rfl : v1 = .int .i64 x1 := by simpa [Kd.int, Kd.string, Kd.bool, Kd.scalar] using K1
  obtain ⟨v2, y2, e2, t2⟩ := hf 2 _ rfl
  obtain ⟨x2, K2, w2⟩ := (opens_int Try.underlying3) _ _ _ _ _ _ t2
  obtain rfl : v2 = .int .i64 x2 := by simpa [Kd.int, Kd.string, Kd.bool, Kd.scalar] using K2
  obtain ⟨v3, y3, e3, t3⟩ := hf 3 _ rfl
  obtain ⟨x3, K3, w3⟩ := (opens_int Try.underlying3) _ _ _ _ _ _ t3
  obtain rfl : v3 = .int .i64 x3 := by simpa [Kd.int, Kd.string, Kd.bool, Kd.scalar] using K3
  obtain ⟨v4, y4, e4, t4⟩ := hf 4 _ rfl
  obtain ⟨x4, K4, w4⟩ := (opens_int Try.underlying3) _ _ _ _ _ _ t4
  obtain rfl : v4 = .int .i64 x4 := by simpa [Kd.int, Kd.string, Kd.bool, Kd.scalar] using K4
  obtain rfl : cs = [.int .i64 x0, .int .i64 x1, .int .i64 x2, .int .i64 x3, .int .i64 x4] := by
    match cs, hlen with
    | [c0, c1, c2, c3, c4], _ => simp_all
  exact ⟨⟨x0, x1, x2, x3, x4⟩, k115_mk _ _, w0, w1, w2, w3, w4⟩
set_option maxRecDepth 100000 in
theorem lifted (os : Os) (started : os.Started) (H : Type) (enc : TypeId × Value → H) :
    ReturnsInHanded {} Try.checked os 12 .any (Rows.fnExactLegsAtSpec.pre6 enc Try.prog Try.f12 Rows.fnExactLegsAtRow.domain false) (Rows.fnExactLegsAtSpec.post enc Try.prog Try.f12 false true false false) := by
  refine returnsInHanded_of_change_sized (C := Try.checked) own started (by kernel_rfl) Try.func12
    (ChangeSpec.witness6 (enc := enc) (C := Try.checked) false ⟨#[], #[.slice none 0 0, .int .i64 0], []⟩ 8 (by kernel_rfl) (by kernel_rfl) (by kernel_rfl) (by kernel_rfl)) ?_
  intro W base args ds gs before hval0 hW hcnd hsz0 _
  have hsz : (DataW.weightsEach Try.prog (Try.f12.params.toList ++ Rows.fnExactLegsAtSpec.plain.varTypes Try.prog) (ds ++ gs)).all (· ≤ reachBytes) = true := hsz0
  have hval : ∀ (j : Nat) t v, Try.f12.params[j]? = some t → args[j]? = some v → Value.okWide Try.prog W .any base t v := hval0
  have hW' := hW
  obtain ⟨p, q, hA0, hV, rfl, hfz, hnd⟩ := hW
  have hA : DataW.TrodAll enc Try.prog W 0 (fun _ => true) true Try.f12.params.toList args.toList ds p := hA0
  rw [Try.params12] at hA hval hsz
  obtain ⟨v0, vs0, d0, ds0, p0, q0, hargs, rfl, rfl, h0, r0⟩ := trodAll_cons hA
  obtain ⟨v1, vs1, d1, ds1, p1, q1, rfl, rfl, rfl, h1, r1⟩ := trodAll_cons r0
  obtain ⟨rfl, rfl, rfl⟩ := trodAll_nil r1
  obtain rfl : args = #[v0, v1] := by cases args; simp_all
  obtain ⟨rfl, rfl⟩ := trodVars_none hV
  have k0_ := h0
  have lt0 : ∀ x ∈ p0, x.block < W.heap.size := by obtain ⟨m, hm⟩ := k0_; exact DataW.trod_lt m _ _ _ hm
  obtain ⟨A0, c0, l0, rfl, hc0, hr0, w0, hd0⟩ := top_slice (K := k115) (Wf := WfS115) Try.underlying72 (by kernel_rfl) (opens_S115 (enc := enc) (w := W)) (hval 0 72 v0 rfl rfl) h0
  have y0 : l0.length * 40 ≤ 140737488351232 := top_sized hsz (j := 0) (t := 72) rfl rfl Try.underlying72 (by kernel_rfl) hd0
  obtain ⟨a1, rfl, rfl, rfl, w1⟩ := open_int Try.underlying3 (hval 1 3 v1 rfl rfl) h1
  clear hA0 hval0 hsz0 hsz
  obtain ⟨k, hk⟩ := Pure.FnExactLegsAt l0 a1 y0 w0 w1
  refine (laws_FnExactLegsAt.calls k A0 c0 l0 a1 true W hr0 hc0 hk).mono fun e W' ⟨he, hd⟩ => ?_
  have bel : Below W.heap.size W W' := hd
  subst he
  exact ⟨_, rfl, _, _, _, [], _, [], hW', trodAll_mk1 (shut_bool Try.underlying4 _), (trodAll_cons_mk (Below.trod laidOut (by kernel_rfl) (of_decide_eq_true (by kernel_rfl)) k0_ bel lt0) (trodAll_cons_mk (shut_int Try.underlying3 w1) trodAll_mk0)), rfl, bel.frame _, fun h => by cases h⟩
theorem over : Rows.fnExactLegsAtRow.holds Try.pinned (OpenSpec.ofChange Rows.fnExactLegsAtSpec) :=
  OpenClaim.holds_of_wide 12 Try.f12 rfl rfl rfl rfl rfl rfl rfl ⟨rfl, rfl, rfl, rfl, rfl⟩ rfl rfl rfl rfl rfl (by kernel_rfl) Try.func12 (by kernel_rfl)
    (of_decide_eq_true (by kernel_rfl)) (by unfold Func.isWrapper; first | (rw [if_pos (by decide +kernel)]; kernel_rfl) | (rw [if_neg (by decide +kernel)]; exact ⟨rfl, rfl⟩))
    (fun os started H enc _ => lifted os started H enc)
theorem proved : Rows.FnExactLegsAtSaid := over
#print axioms proved
end Go.Proofs.Ytpfmhoikhnhdcaa.fnExactLegsAt
namespace Go.Proofs.Ytpfmhoikhnhdcaa
/-- The row, under a short name, for the claim. -/
theorem fnExactLegsAt_holds : Rows.FnExactLegsAtSaid := fnExactLegsAt.proved
end Go.Proofs.Ytpfmhoikhnhdcaa
