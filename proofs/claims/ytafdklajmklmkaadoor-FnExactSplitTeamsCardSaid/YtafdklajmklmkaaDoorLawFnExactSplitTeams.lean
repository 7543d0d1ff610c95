/- The law FnExactSplitTeams, for all its arguments: the row out of its pure statement and the printed contract; the table 'sines' holds what the program's text lays. -/
import Derived.Test.YtafdklajmklmkaaDoorCards
import Derived.Test.YtafdklajmklmkaaDoorTie
import Derived.Test.YtafdklajmklmkaaDoorXFnExactSplitTeamsx11
import Derived.Test.YtafdklajmklmkaaDoorAskFnExactSplitTeams
import Derived.Test.YtafdklajmklmkaaDoorPureFnExactSplitTeams
import Derived.Test.YtafdklajmklmkaaDoorOpen
import Derived.WalkKit
import Derived.ProofKit
import Derived.OpenShut
import Derived.ShutString
import Derived.ChangeOld
import Derived.Below
import Derived.SizedLaws
import Derived.Deep.DeepHandedRow
import Derived.Lib.LaidTab
import Derived.OpenVars
import Derived.Stop.LaidErr
import Derived.Shelf.Vars
namespace Go.Proofs.YtafdklajmklmkaaDoor.fnExactSplitTeams
open Go.ChangeShapes Go.WideShapes Go.ChangeAt Go.RowKit Go.Deep
open Go.ChangeMaps (open_string shut_string)
open Go.Proofs.YtafdklajmklmkaaDoor.XFnExactSplitTeams Go.Proofs.YtafdklajmklmkaaDoor.AskFnExactSplitTeams Go.Proofs.YtafdklajmklmkaaDoor.Open Go.Proofs.YtafdklajmklmkaaDoorW.PrintWords
set_option linter.unusedVariables false
theorem own : ownKnob Tryd.prog.godebug = none := by kernel_rfl
theorem laidOut : laidOutB Tryd.prog = true := by kernel_rfl
theorem cells55 : Tryd.prog.cellsOf 55 = 4 := by kernel_rfl
set_option maxRecDepth 100000 in
theorem opens_S55 {H : Type} {enc : TypeId × Value → H} {w : World} : Opens enc Tryd.prog w 55 k55 WfS55 := by
  intro base spare held n cs x h
  obtain ⟨hlen, m, hf⟩ := struct_reads Tryd.underlying55 (by kernel_rfl) cells55 h
  obtain ⟨v0, y0, e0, t0⟩ := hf 0 _ rfl
  obtain ⟨x0, K0, w0⟩ := (opens_int Tryd.underlying3) _ _ _ _ _ _ t0
  obtain rfl : v0 = .int .i64 x0 := by simpa [Kd.int, Kd.string, Kd.bool, Kd.scalar] using K0
  obtain ⟨v1, y1, e1, t1⟩ := hf 1 _ rfl
  obtain ⟨x1, K1, w1⟩ := (opens_string Tryd.underlying9) _ _ _ _ _ _ t1
  obtain rfl : v1 = .string x1 := by simpa [Kd.int, Kd.string, Kd.bool, Kd.scalar] using K1
  obtain ⟨v2, y2, e2, t2⟩ := hf 2 _ rfl
  obtain ⟨x2, K2, w2⟩ := (opens_int Tryd.underlying3) _ _ _ _ _ _ t2
  obtain rfl : v2 = .int .i64 x2 := by simpa [Kd.int, Kd.string, Kd.bool, Kd.scalar] using K2
  obtain ⟨v3, y3, e3, t3⟩ := hf 3 _ rfl
  obtain ⟨x3, K3, w3⟩ := (opens_int Tryd.underlying3) _ _ _ _ _ _ t3
  obtain rfl : v3 = .int .i64 x3 := by simpa [Kd.int, Kd.string, Kd.bool, Kd.scalar] using K3
  obtain rfl : cs = [.int .i64 x0, .string x1, .int .i64 x2, .int .i64 x3] := by
    match cs, hlen with
    | [c0, c1, c2, c3], _ => simp_all
  exact ⟨⟨x0, x1, x2, x3⟩, k55_mk _ _, w0, w1, w2, w3⟩
set_option maxRecDepth 100000 in
/-- What the walk gives, for every argument and every world that holds the listed variables. -/
theorem contract (H : Type) (enc : TypeId × Value → H) (W : World) (base : Nat) (args : Array Value) (ds gs : List (DataW H)) (before : List MemPlace)
    (hval : ∀ (j : Nat) t v, Tryd.f11.params[j]? = some t → args[j]? = some v → Value.okWide Tryd.prog W .any base t v)
    (hW : DataW.Whole enc Tryd.prog Tryd.f11.params.toList Rows.fnExactSplitTeamsSpec.vars false W args.toList ds gs before)
    (hsz : (DataW.weightsEach Tryd.prog (Tryd.f11.params.toList ++ Rows.fnExactSplitTeamsSpec.plain.varTypes Tryd.prog) (ds ++ gs)).all (· ≤ reachBytes) = true) (hL : laidMetH Tryd.prog Rows.fnExactSplitTeamsRow.laid W) (hSh : W.ShapedOpen Tryd.prog) :
    Calls Tryd.prog 11 args W fun e W' => ∃ v, e = .returned v ∧ Rows.fnExactSplitTeamsSpec.post enc Tryd.prog Tryd.f11 false true false false W args v W' := by
  have hW' := hW
  obtain ⟨p, q, hA0, hV, rfl, hfz, hnd⟩ := hW
  have hA : DataW.TrodAll enc Tryd.prog W 0 (fun _ => true) true Tryd.f11.params.toList args.toList ds p := hA0
  rw [Tryd.params11] at hA hval hsz
  obtain ⟨v0, vs0, d0, ds0, p0, q0, hargs, rfl, rfl, h0, r0⟩ := trodAll_cons hA
  obtain ⟨rfl, rfl, rfl⟩ := trodAll_nil r0
  obtain rfl : args = #[v0] := by cases args; simp_all
  obtain ⟨rfl, rfl⟩ := trodVars_none hV
  have k0_ := h0
  have lt0 : ∀ x ∈ p0, x.block < W.heap.size := by obtain ⟨m, hm⟩ := k0_; exact DataW.trod_lt m _ _ _ hm
  obtain ⟨A0, c0, l0, rfl, hc0, hr0, w0, hd0⟩ := top_slice (K := k55) (Wf := WfS55) Tryd.underlying22 (by kernel_rfl) (opens_S55 (enc := enc) (w := W)) (hval 0 22 v0 rfl rfl) h0
  have y0 : l0.length * 40 ≤ 140737488351232 := top_sized hsz (j := 0) (t := 22) rfl rfl Tryd.underlying22 (by kernel_rfl) hd0
  clear hA0
  obtain ⟨k, hk⟩ := Pure.FnExactSplitTeams l0 y0 w0
  refine (laws_FnExactSplitTeams.calls k A0 c0 l0 true W hr0 hc0 hk).mono fun e W' ⟨he, hd⟩ => ?_
  have bel : Below W.heap.size W W' := hd
  subst he
  exact ⟨_, rfl, _, _, _, [], _, [], hW', trodAll_mk1 (shut_bool Tryd.underlying4 _), (trodAll_cons_mk (Below.trod laidOut (by kernel_rfl) (of_decide_eq_true (by kernel_rfl)) k0_ bel lt0) trodAll_mk0), rfl, bel.frame _, fun h => by cases h⟩
/-- How many blocks lie ahead of what is added. -/
noncomputable def lowLaid : Nat := (World.holding Tryd.prog default ⟨#[], #[], []⟩).heap.size
/-- A world for the witness: the settled one, the listed variables holding what their initialisers lay. -/
noncomputable def laidHeap (os : Os) : Array Obj :=
  (((World.holding Tryd.prog os ⟨#[], #[], []⟩).heap).modify 1 fun
      | .cells _ t frozen => .cells ([.int .u8 128, .int .u8 191, .int .u8 160, .int .u8 191, .int .u8 128, .int .u8 159, .int .u8 144, .int .u8 191, .int .u8 128, .int .u8 143, .int .u8 0, .int .u8 0, .int .u8 0, .int .u8 0, .int .u8 0, .int .u8 0, .int .u8 0, .int .u8 0, .int .u8 0, .int .u8 0, .int .u8 0, .int .u8 0, .int .u8 0, .int .u8 0, .int .u8 0, .int .u8 0, .int .u8 0, .int .u8 0, .int .u8 0, .int .u8 0, .int .u8 0, .int .u8 0] : List Value).toArray t frozen
      | o => o).modify 0 fun
      | .cells _ t frozen => .cells ((Go.Pinned.utf8FirstZ.map fun (x : Nat) => Value.int .u8 (x : Int)) : List Value).toArray t frozen
      | o => o
noncomputable def laidWorld (os : Os) : World := { (World.holding Tryd.prog os ⟨#[], #[], []⟩) with heap := laidHeap os }
set_option maxRecDepth 100000 in
theorem laid_met (os : Os) : laidMet Tryd.prog Rows.fnExactSplitTeamsRow.laid ((laidWorld os).forCall (fun _ _ => 0) ⟨#[], #[.slice none 0 0], []⟩).memory :=
  laidMet_of_run' 8 (by kernel_rfl) (by kernel_rfl)
set_option maxRecDepth 100000 in
theorem reads (os : Os) {H : Type} (enc : TypeId × Value → H) : ∃ places, DataW.whole enc Tryd.prog ((laidWorld os).forCall (fun _ _ => 0) ⟨#[], #[.slice none 0 0], []⟩).memory Tryd.f11.params.toList Rows.fnExactSplitTeamsSpec.vars false (#[.slice none 0 0] : Array Value).toList 8 = some ([.nil], [], places) :=
  ⟨[], by kernel_rfl⟩
set_option maxRecDepth 100000 in
theorem lifted (os : Os) (started : os.Started) (H : Type) (enc : TypeId × Value → H) (F : Stop.Interp) :
    ReturnsInHanded {} Tryd.checked os 11 .any ((OpenSpec.ofChange Rows.fnExactSplitTeamsSpec).preRow enc Tryd.prog Tryd.f11 Rows.fnExactSplitTeamsRow.domain false Rows.fnExactSplitTeamsRow.laid) (((OpenSpec.ofChange Rows.fnExactSplitTeamsSpec).at F).post enc Tryd.prog Tryd.f11 false true false false) := by
  obtain ⟨places, hx⟩ := reads os enc
  refine returnsInHanded_of_row (C := Tryd.checked) (s := OpenSpec.ofChange Rows.fnExactSplitTeamsSpec) own started (by kernel_rfl) Tryd.func11
    (witness_row_at (enc := enc) (C := Tryd.checked) false (laidWorld os) #[.slice none 0 0] rfl (by kernel_rfl) (by kernel_rfl) (by kernel_rfl)
      (OpenSpec.preRow_of_cond 8 hx (by kernel_rfl) (fun k hk => by cases hk) (by kernel_rfl) (laid_met os))) ?_
  intro W base args ds gs before hval hW _ _ hsz hL hSh _
  exact contract H enc W base args ds gs before hval hW hsz hL hSh
theorem said : Rows.FnExactSplitTeamsSaid :=
  OpenClaim.holds_of_cond 11 Tryd.f11 rfl rfl rfl rfl rfl rfl rfl ⟨rfl, rfl, rfl, rfl, rfl⟩ rfl rfl rfl rfl rfl (by kernel_rfl) Tryd.func11 (by kernel_rfl)
    (of_decide_eq_true (by kernel_rfl)) (by unfold Func.isWrapper; first | (rw [if_pos (by decide +kernel)]; kernel_rfl) | (rw [if_neg (by decide +kernel)]; exact ⟨rfl, rfl⟩))
    (fun os started H enc _ F => by rw [OpenClaim.pre_eq_preRow]; exact lifted os started H enc F)
/-- No parameter wants a stand-in; the program's own looks are off: what the card asks. -/
theorem plain (f : FuncId) (fn : Func) (hf : Tryd.pinned.checked.prog.funcNamed "loop.example/g00933/laws.FnExactSplitTeams" = some f) (hfn : Tryd.pinned.checked.prog.funcs[f]? = some fn) :
    false = Tryd.pinned.checked.prog.looks [] ∧ ∀ (j : Nat) t, fn.params[j]? = some t → Tryd.pinned.checked.prog.wantsStandIn t = false := by
  obtain rfl : f = 11 := Option.some.inj ((show Tryd.prog.funcNamed "loop.example/g00933/laws.FnExactSplitTeams" = some 11 by kernel_rfl).symm.trans hf) |>.symm
  obtain rfl : fn = Tryd.f11 := (Option.some.inj (Tryd.func11.symm.trans hfn)).symm
  refine ⟨by kernel_rfl, fun j t ht => ?_⟩
  rw [Tryd.params11] at ht
  obtain rfl : t = 22 := by simpa using Array.mem_of_getElem? ht
  exact (show Tryd.prog.wantsStandIn 22 = false by kernel_rfl)
/-- The card. -/
theorem card : Rows.FnExactSplitTeamsCardSaid :=
  Claim7.holds_tied_plain_at .later [] _ _ _ _ said (fun _ h => by cases h) (by kernel_rfl) (fun _ h => by cases h) fnExactSplitTeams_row_tie rfl ⟨rfl, rfl⟩ (by kernel_rfl) rfl plain (by kernel_rfl)
end Go.Proofs.YtafdklajmklmkaaDoor.fnExactSplitTeams
namespace Go.Proofs.YtafdklajmklmkaaDoor
/-- The card, under a short name, for the claim. -/
theorem fnExactSplitTeams_card_holds : Rows.FnExactSplitTeamsCardSaid := fnExactSplitTeams.card
#print axioms fnExactSplitTeams_card_holds
end Go.Proofs.YtafdklajmklmkaaDoor
