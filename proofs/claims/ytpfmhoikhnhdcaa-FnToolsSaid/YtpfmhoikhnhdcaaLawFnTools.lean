/- The law FnTools, for all its arguments: the row out of its pure statement and the printed contract. -/
import Derived.Test.YtpfmhoikhnhdcaaRows
import Derived.Test.YtpfmhoikhnhdcaaXFnToolsx12
import Derived.Test.YtpfmhoikhnhdcaaAskFnTools
import Derived.Test.YtpfmhoikhnhdcaaPureFnTools
import Derived.Test.YtpfmhoikhnhdcaaOpen
import Derived.WalkKit
import Derived.ProofKit
import Derived.OpenShut
import Derived.ShutString
import Derived.ChangeOld
import Derived.Below
import Derived.SizedLaws
namespace Go.Proofs.Ytpfmhoikhnhdcaa.fnTools
open Go.ChangeShapes Go.WideShapes Go.ChangeAt Go.RowKit Go.Deep
open Go.ChangeMaps (open_string shut_string)
open Go.Proofs.Ytpfmhoikhnhdcaa.XFnTools Go.Proofs.Ytpfmhoikhnhdcaa.AskFnTools Go.Proofs.Ytpfmhoikhnhdcaa.Open Go.Proofs.YtpfmhoikhnhdcaaW.PrintWords
set_option linter.unusedVariables false
theorem own : ownKnob Try.prog.godebug = none := by kernel_rfl
theorem laidOut : laidOutB Try.prog = true := by kernel_rfl
set_option maxRecDepth 100000 in
theorem lifted (os : Os) (started : os.Started) (H : Type) (enc : TypeId × Value → H) :
    ReturnsInHanded {} Try.checked os 13 .any (Rows.fnToolsSpec.pre6 enc Try.prog Try.f13 Rows.fnToolsRow.domain false) (Rows.fnToolsSpec.post enc Try.prog Try.f13 false true false false) := by
  refine returnsInHanded_of_change_sized (C := Try.checked) own started (by kernel_rfl) Try.func13
    (ChangeSpec.witness6 (enc := enc) (C := Try.checked) false ⟨#[], #[.slice none 0 0], []⟩ 8 (by kernel_rfl) (by kernel_rfl) (by kernel_rfl) (by kernel_rfl)) ?_
  intro W base args ds gs before hval0 hW hcnd hsz0 _
  have hsz : (DataW.weightsEach Try.prog (Try.f13.params.toList ++ Rows.fnToolsSpec.plain.varTypes Try.prog) (ds ++ gs)).all (· ≤ reachBytes) = true := hsz0
  have hval : ∀ (j : Nat) t v, Try.f13.params[j]? = some t → args[j]? = some v → Value.okWide Try.prog W .any base t v := hval0
  have hW' := hW
  obtain ⟨p, q, hA0, hV, rfl, hfz, hnd⟩ := hW
  have hA : DataW.TrodAll enc Try.prog W 0 (fun _ => true) true Try.f13.params.toList args.toList ds p := hA0
  rw [Try.params13] at hA hval hsz
  obtain ⟨v0, vs0, d0, ds0, p0, q0, hargs, rfl, rfl, h0, r0⟩ := trodAll_cons hA
  obtain ⟨rfl, rfl, rfl⟩ := trodAll_nil r0
  obtain rfl : args = #[v0] := by cases args; simp_all
  obtain ⟨rfl, rfl⟩ := trodVars_none hV
  have k0_ := h0
  have lt0 : ∀ x ∈ p0, x.block < W.heap.size := by obtain ⟨m, hm⟩ := k0_; exact DataW.trod_lt m _ _ _ hm
  obtain ⟨A0, c0, l0, rfl, hc0, hr0, w0, hd0⟩ := top_slice (K := (Kd.int .u8)) (Wf := (fun y : Int => (Lit.int .u8 y).wf = true)) Try.underlying32 (by kernel_rfl) (opens_int Try.underlying5) (hval 0 32 v0 rfl rfl) h0
  have y0 : l0.length * 1 ≤ 140737488351232 := top_sized hsz (j := 0) (t := 32) rfl rfl Try.underlying32 (by kernel_rfl) hd0
  clear hA0 hval0 hsz0 hsz
  obtain ⟨k, hk⟩ := Pure.FnTools l0 y0 w0
  refine (laws_FnTools.calls k A0 c0 l0 true W hr0 hc0 hk).mono fun e W' ⟨he, hd⟩ => ?_
  have bel : Below W.heap.size W W' := hd
  subst he
  exact ⟨_, rfl, _, _, _, [], _, [], hW', trodAll_mk1 (shut_bool Try.underlying4 _), (trodAll_cons_mk (Below.trod laidOut (by kernel_rfl) (of_decide_eq_true (by kernel_rfl)) k0_ bel lt0) trodAll_mk0), rfl, bel.frame _, fun h => by cases h⟩
theorem over : Rows.fnToolsRow.holds Try.pinned (OpenSpec.ofChange Rows.fnToolsSpec) :=
  OpenClaim.holds_of_wide 13 Try.f13 rfl rfl rfl rfl rfl rfl rfl ⟨rfl, rfl, rfl, rfl, rfl⟩ rfl rfl rfl rfl rfl (by kernel_rfl) Try.func13 (by kernel_rfl)
    (of_decide_eq_true (by kernel_rfl)) (by unfold Func.isWrapper; first | (rw [if_pos (by decide +kernel)]; kernel_rfl) | (rw [if_neg (by decide +kernel)]; exact ⟨rfl, rfl⟩))
    (fun os started H enc _ => lifted os started H enc)
theorem proved : Rows.FnToolsSaid := over
#print axioms proved
end Go.Proofs.Ytpfmhoikhnhdcaa.fnTools
namespace Go.Proofs.Ytpfmhoikhnhdcaa
/-- The row, under a short name, for the claim. -/
theorem fnTools_holds : Rows.FnToolsSaid := fnTools.proved
end Go.Proofs.Ytpfmhoikhnhdcaa
