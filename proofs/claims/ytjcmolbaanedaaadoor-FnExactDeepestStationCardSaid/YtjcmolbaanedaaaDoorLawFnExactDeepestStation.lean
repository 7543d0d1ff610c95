/- The law FnExactDeepestStation, for all its arguments: the row out of its pure statement and the printed contract; the table 'sines' holds what the program's text lays. -/
import Derived.Test.YtjcmolbaanedaaaDoorCards
import Derived.Test.YtjcmolbaanedaaaDoorTie
import Derived.Test.YtjcmolbaanedaaaDoorXFnExactDeepestStationx7
import Derived.Test.YtjcmolbaanedaaaDoorAskFnExactDeepestStation
import Derived.Test.YtjcmolbaanedaaaDoorPureFnExactDeepestStation
import Derived.Test.YtjcmolbaanedaaaDoorOpen
import Derived.WalkKit
import Derived.ProofKit
import Derived.OpenShut
import Derived.ShutString
import Derived.ChangeOld
import Derived.Below
import Derived.SizedLaws
import Derived.Deep.DeepHandedRow
import Derived.Lib.LaidTab
import Derived.OpenVars
import Derived.Stop.LaidErr
import Derived.Shelf.Vars
namespace Go.Proofs.YtjcmolbaanedaaaDoor.fnExactDeepestStation
open Go.ChangeShapes Go.WideShapes Go.ChangeAt Go.RowKit Go.Deep
open Go.ChangeMaps (open_string shut_string)
open Go.Proofs.YtjcmolbaanedaaaDoor.XFnExactDeepestStation Go.Proofs.YtjcmolbaanedaaaDoor.AskFnExactDeepestStation Go.Proofs.YtjcmolbaanedaaaDoor.Open Go.Proofs.YtjcmolbaanedaaaDoorW.PrintWords
set_option linter.unusedVariables false
theorem own : ownKnob Tryd.prog.godebug = none := by kernel_rfl
theorem laidOut : laidOutB Tryd.prog = true := by kernel_rfl
theorem cells23 : Tryd.prog.cellsOf 23 = 5 := by kernel_rfl
set_option maxRecDepth 100000 in
theorem opens_S23 {H : Type} {enc : TypeId × Value → H} {w : World} : Opens enc Tryd.prog w 23 k23 WfS23 := by
  intro base spare held n cs x h
  obtain ⟨hlen, m, hf⟩ := struct_reads Tryd.underlying23 (by kernel_rfl) cells23 h
  obtain ⟨v0, y0, e0, t0⟩ := hf 0 _ rfl
  obtain ⟨x0, K0, w0⟩ := (opens_int Tryd.underlying3) _ _ _ _ _ _ t0
  obtain rfl : v0 = .int .i64 x0 := by simpa [Kd.int, Kd.string, Kd.bool, Kd.scalar] using K0
  obtain ⟨v1, y1, e1, t1⟩ := hf 1 _ rfl
  obtain ⟨x1, K1, w1⟩ := (opens_int Tryd.underlying3) _ _ _ _ _ _ t1
  obtain rfl : v1 = .int .i64 x1 := by simpa [Kd.int, Kd.string, Kd.bool, Kd.scalar] using K1
  obtain ⟨v2, y2, e2, t2⟩ := hf 2 _ rfl
  obtain ⟨x2, K2, w2⟩ := (opens_int Tryd.underlying3) _ _ _ _ _ _ t2
  obtain rfl : v2 = .int .i64 x2 := by simpa [Kd.int, Kd.string, Kd.bool, Kd.scalar] using K2
  obtain ⟨v3, y3, e3, t3⟩ := hf 3 _ rfl
  obtain ⟨x3, K3, w3⟩ := (opens_int Tryd.underlying3) _ _ _ _ _ _ t3
  obtain rfl : v3 = .int .i64 x3 := by simpa [Kd.int, Kd.string, Kd.bool, Kd.scalar] using K3
  obtain ⟨v4, y4, e4, t4⟩ := hf 4 _ rfl
  obtain ⟨x4, K4, w4⟩ := (opens_int Tryd.underlying3) _ _ _ _ _ _ t4
  obtain rfl : v4 = .int .i64 x4 := by simpa [Kd.int, Kd.string, Kd.bool, Kd.scalar] using K4
  obtain rfl : cs = [.int .i64 x0, .int .i64 x1, .int .i64 x2, .int .i64 x3, .int .i64 x4] := by
    match cs, hlen with
    | [c0, c1, c2, c3, c4], _ => simp_all
  exact ⟨⟨x0, x1, x2, x3, x4⟩, k23_mk _ _, w0, w1, w2, w3, w4⟩
theorem gTab : Tryd.prog.globalNamed "loop.example/g00933/impl.sines" = some 0 := by kernel_rfl
theorem gTabType : (Tryd.prog.globals[0]?).map (·.type) = some 85 := by kernel_rfl
theorem cellsTab : Tryd.prog.cellsOf 85 = 91 := by kernel_rfl
theorem cellsInt : Tryd.prog.cellsOf 3 = 1 := by kernel_rfl
set_option maxRecDepth 100000 in
theorem table {W : World} (h : laidMetH Tryd.prog Rows.fnExactDeepestStationRow.laid W) : Lib.TabIs Tryd.prog W "loop.example/g00933/impl.sines" .i64 sineTab :=
  Lib.tabIs_of_head (rest := []) gTab gTabType Tryd.underlying85 Tryd.underlying3 cellsInt cellsTab h
theorem tabbed {W : World} (h : laidMetH Tryd.prog Rows.fnExactDeepestStationRow.laid W) : Tab W := ⟨fun i hi => (table h).cell gTab i (by simpa [sineTab] using hi)⟩
set_option maxRecDepth 100000 in
/-- What the walk gives, for every argument and every world that holds the listed variables. -/
theorem contract (H : Type) (enc : TypeId × Value → H) (W : World) (base : Nat) (args : Array Value) (ds gs : List (DataW H)) (before : List MemPlace)
    (hval : ∀ (j : Nat) t v, Tryd.f5.params[j]? = some t → args[j]? = some v → Value.okWide Tryd.prog W .any base t v)
    (hW : DataW.Whole enc Tryd.prog Tryd.f5.params.toList Rows.fnExactDeepestStationSpec.vars false W args.toList ds gs before)
    (hsz : (DataW.weightsEach Tryd.prog (Tryd.f5.params.toList ++ Rows.fnExactDeepestStationSpec.plain.varTypes Tryd.prog) (ds ++ gs)).all (· ≤ reachBytes) = true) (hL : laidMetH Tryd.prog Rows.fnExactDeepestStationRow.laid W) (hSh : W.ShapedOpen Tryd.prog) :
    Calls Tryd.prog 5 args W fun e W' => ∃ v, e = .returned v ∧ Rows.fnExactDeepestStationSpec.post enc Tryd.prog Tryd.f5 false true false false W args v W' := by
  have hW' := hW
  obtain ⟨p, q, hA0, hV, rfl, hfz, hnd⟩ := hW
  have hA : DataW.TrodAll enc Tryd.prog W 0 (fun _ => true) true Tryd.f5.params.toList args.toList ds p := hA0
  rw [Tryd.params5] at hA hval hsz
  obtain ⟨v0, vs0, d0, ds0, p0, q0, hargs, rfl, rfl, h0, r0⟩ := trodAll_cons hA
  obtain ⟨rfl, rfl, rfl⟩ := trodAll_nil r0
  obtain rfl : args = #[v0] := by cases args; simp_all
  obtain ⟨dg, rfl⟩ : ∃ d, gs = [d] := by
    obtain ⟨_, _, _, _, dg, _, e, _⟩ := trodVars_one hV
    exact ⟨dg, e⟩
  have k0_ := h0
  have lt0 : ∀ x ∈ p0, x.block < W.heap.size := by obtain ⟨m, hm⟩ := k0_; exact DataW.trod_lt m _ _ _ hm
  obtain ⟨A0, c0, l0, rfl, hc0, hr0, w0, hd0⟩ := top_slice (K := k23) (Wf := WfS23) Tryd.underlying32 (by kernel_rfl) (opens_S23 (enc := enc) (w := W)) (hval 0 32 v0 rfl rfl) h0
  have y0 : l0.length * 40 ≤ 140737488351232 := top_sized hsz (j := 0) (t := 32) rfl rfl Tryd.underlying32 (by kernel_rfl) hd0
  have hT : Tab W := tabbed hL
  clear hA0
  obtain ⟨k, hk⟩ := Pure.FnExactDeepestStation l0 y0 w0
  refine (laws_FnExactDeepestStation.calls k A0 c0 l0 true W hT hr0 hc0 hk).mono fun e W' ⟨he, hd⟩ => ?_
  have bel : Below W.heap.size W W' := hd
  subst he
  exact ⟨_, rfl, _, _, _, [], _, q, hW', trodAll_mk1 (shut_bool Tryd.underlying4 _), (trodAll_cons_mk (Below.trod laidOut (by kernel_rfl) (of_decide_eq_true (by kernel_rfl)) k0_ bel lt0) trodAll_mk0), Below.trodVars laidOut bel (by kernel_rfl) hV, bel.frame _, fun h => by cases h⟩
/-- A world for the witness: the settled one, the table (block 0) holding what its initialiser lays. -/
noncomputable def laidWorld (os : Os) : World :=
  { World.holding Tryd.prog os ⟨#[], #[], []⟩ with heap := (World.holding Tryd.prog os ⟨#[], #[], []⟩).heap.modify 0 fun
      | .cells _ t frozen => .cells (sineTab.map (Value.int .i64)).toArray t frozen
      | o => o }
set_option maxRecDepth 100000 in
theorem laid_met (os : Os) : laidMet Tryd.prog Rows.fnExactDeepestStationRow.laid ((laidWorld os).forCall (fun _ _ => 0) ⟨#[], #[.slice none 0 0], []⟩).memory :=
  laidMet_of_run' 8 (by kernel_rfl) (by kernel_rfl)
set_option maxRecDepth 100000 in
theorem reads (os : Os) {H : Type} (enc : TypeId × Value → H) : ∃ places, DataW.whole enc Tryd.prog ((laidWorld os).forCall (fun _ _ => 0) ⟨#[], #[.slice none 0 0], []⟩).memory Tryd.f5.params.toList Rows.fnExactDeepestStationSpec.vars false (#[.slice none 0 0] : Array Value).toList 8 = some ([.nil], [Rows.laid_loop_example_g00933_impl_sines], places) :=
  ⟨MemPlace.row ⟨0, 0, none⟩ 91, by kernel_rfl⟩
set_option maxRecDepth 100000 in
theorem lifted (os : Os) (started : os.Started) (H : Type) (enc : TypeId × Value → H) (F : Stop.Interp) :
    ReturnsInHanded {} Tryd.checked os 5 .any ((OpenSpec.ofChange Rows.fnExactDeepestStationSpec).preRow enc Tryd.prog Tryd.f5 Rows.fnExactDeepestStationRow.domain false Rows.fnExactDeepestStationRow.laid) (((OpenSpec.ofChange Rows.fnExactDeepestStationSpec).at F).post enc Tryd.prog Tryd.f5 false true false false) := by
  obtain ⟨places, hx⟩ := reads os enc
  refine returnsInHanded_of_row (C := Tryd.checked) (s := OpenSpec.ofChange Rows.fnExactDeepestStationSpec) own started (by kernel_rfl) Tryd.func5
    (witness_row_at (enc := enc) (C := Tryd.checked) false (laidWorld os) #[.slice none 0 0] rfl (by kernel_rfl) (by kernel_rfl) (by kernel_rfl)
      (OpenSpec.preRow_of_cond 8 hx (by kernel_rfl) (fun k hk => by cases hk) (by kernel_rfl) (laid_met os))) ?_
  intro W base args ds gs before hval hW _ _ hsz hL hSh _
  exact contract H enc W base args ds gs before hval hW hsz hL hSh
theorem said : Rows.FnExactDeepestStationSaid :=
  OpenClaim.holds_of_cond 5 Tryd.f5 rfl rfl rfl rfl rfl rfl rfl ⟨rfl, rfl, rfl, rfl, rfl⟩ rfl rfl rfl rfl rfl (by kernel_rfl) Tryd.func5 (by kernel_rfl)
    (of_decide_eq_true (by kernel_rfl)) (by unfold Func.isWrapper; first | (rw [if_pos (by decide +kernel)]; kernel_rfl) | (rw [if_neg (by decide +kernel)]; exact ⟨rfl, rfl⟩))
    (fun os started H enc _ F => by rw [OpenClaim.pre_eq_preRow]; exact lifted os started H enc F)
/-- No parameter wants a stand-in; the program's own looks are off: what the card asks. -/
theorem plain (f : FuncId) (fn : Func) (hf : Tryd.pinned.checked.prog.funcNamed "loop.example/g00933/laws.FnExactDeepestStation" = some f) (hfn : Tryd.pinned.checked.prog.funcs[f]? = some fn) :
    false = Tryd.pinned.checked.prog.looks [] ∧ ∀ (j : Nat) t, fn.params[j]? = some t → Tryd.pinned.checked.prog.wantsStandIn t = false := by
  obtain rfl : f = 5 := Option.some.inj ((show Tryd.prog.funcNamed "loop.example/g00933/laws.FnExactDeepestStation" = some 5 by kernel_rfl).symm.trans hf) |>.symm
  obtain rfl : fn = Tryd.f5 := (Option.some.inj (Tryd.func5.symm.trans hfn)).symm
  refine ⟨by kernel_rfl, fun j t ht => ?_⟩
  rw [Tryd.params5] at ht
  obtain rfl : t = 32 := by simpa using Array.mem_of_getElem? ht
  exact (show Tryd.prog.wantsStandIn 32 = false by kernel_rfl)
/-- The card. -/
theorem card : Rows.FnExactDeepestStationCardSaid :=
  Claim7.holds_tied_plain_at .later [] _ _ _ _ said (fun _ h => by cases h) (by kernel_rfl) (fun _ h => by cases h) fnExactDeepestStation_row_tie rfl ⟨rfl, rfl⟩ (by kernel_rfl) rfl plain (by kernel_rfl)
end Go.Proofs.YtjcmolbaanedaaaDoor.fnExactDeepestStation
namespace Go.Proofs.YtjcmolbaanedaaaDoor
/-- The card, under a short name, for the claim. -/
theorem fnExactDeepestStation_card_holds : Rows.FnExactDeepestStationCardSaid := fnExactDeepestStation.card
#print axioms fnExactDeepestStation_card_holds
end Go.Proofs.YtjcmolbaanedaaaDoor
