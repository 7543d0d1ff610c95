/-
  No cell of these rows narrows 'for every input' (looked for: loops, veiled, ifaces, maps, wideKeys, modest, calm, conditions, laid).
  DERIVED. THE GIVEN ROWS OF THIS SEAT. 12 by the template 'for every input the law returns true; each argument reads behind the call as it read before'; 0 by the template 'total and deterministic' (their statements: YtpfmhoikhnhdcaaTotals.lean).
  GIVEN WITH THE SEED: the statements are not yours to turn. If you find one false, say at which input.
  Laid BY PROGRAM, IN A SANDBOX (cutbox-rows.mjs): the forced cells as the released guide's own fill.sh prints them over the translation efed5e67fc398db7… (all of the seat's roots in one cut). By AI agents, Wed Nov 11 2026. No macro, syntax, notation, axiom, sorry.
-/
import Derived.Test.YtpfmhoikhnhdcaaChecked
import GoSem.Claim
import GoSem.ClaimJoined
import GoSem.ClaimMapViews
import Derived.JoinedTies
import Derived.KernelRfl
namespace Go.Proofs.Ytpfmhoikhnhdcaa
/- THE CELL 'sum', in the pinned program and in every row, IS THE sha256 OF THE DUMP (.gsa) THAT YtpfmhoikhnhdcaaProg.lean LOADS. Nothing in Lean hashes anything: it is a label: what it is worth is what the hold of that sum in a sandbox is worth. -/
noncomputable def Try.pinned : Pinned := { name := "ytpfmhoikhnhdcaa", sum := "efed5e67fc398db70fe3ba7c74e11078a3537319c89dcb27dfb9c57de0a1cedb", checked := Try.checked }
namespace Rows
def none {H : Type} : Left H := { results := [], args := [] }

/-- 'laws.FnExactSplitString': WHATEVER THE INPUT: true; the input reads as it did. -/
def fnExactSplitStringSpec : ChangeSpec := { name := "fnExactSplitString", fn := fun _ => fun
  | [d1, d2] => { results := [.lit (.bool true)], args := [d1, d2] }
  | _ => none }
def fnExactSplitStringRow : OpenClaim := { program := "ytpfmhoikhnhdcaa", sum := "efed5e67fc398db70fe3ba7c74e11078a3537319c89dcb27dfb9c57de0a1cedb", func := "loop.example/g00933/laws.FnExactSplitString", spec := "fnExactSplitString", inPlace := ["internal/bytealg.IndexByteString"], apart := false }
def FnExactSplitStringSaid : Prop := fnExactSplitStringRow.holds Try.pinned (OpenSpec.ofChange fnExactSplitStringSpec)

/-- ITS FALSE NEIGHBOUR: 'it returns false'. Refute it at one input. -/
def fnExactSplitStringWrong : ChangeSpec := { name := "fnExactSplitString", fn := fun _ => fun
  | [d1, d2] => { results := [.lit (.bool false)], args := [d1, d2] }
  | _ => none }
def FnExactSplitStringWrongFalsely : Prop := fnExactSplitStringRow.holds Try.pinned (OpenSpec.ofChange fnExactSplitStringWrong)

/-- 'laws.FnExactJoinStrings': WHATEVER THE INPUT: true; the input reads as it did. -/
def fnExactJoinStringsSpec : ChangeSpec := { name := "fnExactJoinStrings", fn := fun _ => fun
  | [d1, d2] => { results := [.lit (.bool true)], args := [d1, d2] }
  | _ => none }
def fnExactJoinStringsRow : OpenClaim := { program := "ytpfmhoikhnhdcaa", sum := "efed5e67fc398db70fe3ba7c74e11078a3537319c89dcb27dfb9c57de0a1cedb", func := "loop.example/g00933/laws.FnExactJoinStrings", spec := "fnExactJoinStrings", inPlace := ["internal/bytealg.IndexByteString", "internal/abi.NoEscape", "internal/bytealg.MakeNoZero"], apart := false }
def FnExactJoinStringsSaid : Prop := fnExactJoinStringsRow.holds Try.pinned (OpenSpec.ofChange fnExactJoinStringsSpec)

/-- ITS FALSE NEIGHBOUR: 'it returns false'. Refute it at one input. -/
def fnExactJoinStringsWrong : ChangeSpec := { name := "fnExactJoinStrings", fn := fun _ => fun
  | [d1, d2] => { results := [.lit (.bool false)], args := [d1, d2] }
  | _ => none }
def FnExactJoinStringsWrongFalsely : Prop := fnExactJoinStringsRow.holds Try.pinned (OpenSpec.ofChange fnExactJoinStringsWrong)

/-- 'laws.FnSplitJoin': WHATEVER THE INPUT: true; the input reads as it did. -/
def fnSplitJoinSpec : ChangeSpec := { name := "fnSplitJoin", fn := fun _ => fun
  | [d] => { results := [.lit (.bool true)], args := [d] }
  | _ => none }
def fnSplitJoinRow : OpenClaim := { program := "ytpfmhoikhnhdcaa", sum := "efed5e67fc398db70fe3ba7c74e11078a3537319c89dcb27dfb9c57de0a1cedb", func := "loop.example/g00933/laws.FnSplitJoin", spec := "fnSplitJoin", inPlace := ["internal/bytealg.IndexByteString", "internal/abi.NoEscape", "internal/bytealg.MakeNoZero"], apart := false }
def FnSplitJoinSaid : Prop := fnSplitJoinRow.holds Try.pinned (OpenSpec.ofChange fnSplitJoinSpec)

/-- ITS FALSE NEIGHBOUR: 'it returns false'. Refute it at one input. -/
def fnSplitJoinWrong : ChangeSpec := { name := "fnSplitJoin", fn := fun _ => fun
  | [d] => { results := [.lit (.bool false)], args := [d] }
  | _ => none }
def FnSplitJoinWrongFalsely : Prop := fnSplitJoinRow.holds Try.pinned (OpenSpec.ofChange fnSplitJoinWrong)

/-- 'laws.FnExactCheckError': WHATEVER THE INPUT: true; the input reads as it did. -/
def fnExactCheckErrorSpec : ChangeSpec := { name := "fnExactCheckError", fn := fun _ => fun
  | [d1, d2] => { results := [.lit (.bool true)], args := [d1, d2] }
  | _ => none }
def fnExactCheckErrorRow : OpenClaim := { program := "ytpfmhoikhnhdcaa", sum := "efed5e67fc398db70fe3ba7c74e11078a3537319c89dcb27dfb9c57de0a1cedb", func := "loop.example/g00933/laws.FnExactCheckError", spec := "fnExactCheckError", recurses := true, apart := false }
def FnExactCheckErrorSaid : Prop := fnExactCheckErrorRow.holds Try.pinned (OpenSpec.ofChange fnExactCheckErrorSpec)

/-- ITS FALSE NEIGHBOUR: 'it returns false'. Refute it at one input. -/
def fnExactCheckErrorWrong : ChangeSpec := { name := "fnExactCheckError", fn := fun _ => fun
  | [d1, d2] => { results := [.lit (.bool false)], args := [d1, d2] }
  | _ => none }
def FnExactCheckErrorWrongFalsely : Prop := fnExactCheckErrorRow.holds Try.pinned (OpenSpec.ofChange fnExactCheckErrorWrong)

/-- 'laws.FnExactToolsOf': WHATEVER THE INPUT: true; the input reads as it did. -/
def fnExactToolsOfSpec : ChangeSpec := { name := "fnExactToolsOf", fn := fun _ => fun
  | [d1, d2] => { results := [.lit (.bool true)], args := [d1, d2] }
  | _ => none }
def fnExactToolsOfRow : OpenClaim := { program := "ytpfmhoikhnhdcaa", sum := "efed5e67fc398db70fe3ba7c74e11078a3537319c89dcb27dfb9c57de0a1cedb", func := "loop.example/g00933/laws.FnExactToolsOf", spec := "fnExactToolsOf", apart := false }
def FnExactToolsOfSaid : Prop := fnExactToolsOfRow.holds Try.pinned (OpenSpec.ofChange fnExactToolsOfSpec)

/-- ITS FALSE NEIGHBOUR: 'it returns false'. Refute it at one input. -/
def fnExactToolsOfWrong : ChangeSpec := { name := "fnExactToolsOf", fn := fun _ => fun
  | [d1, d2] => { results := [.lit (.bool false)], args := [d1, d2] }
  | _ => none }
def FnExactToolsOfWrongFalsely : Prop := fnExactToolsOfRow.holds Try.pinned (OpenSpec.ofChange fnExactToolsOfWrong)

/-- 'laws.FnExactWorstCheck': WHATEVER THE INPUT: true; the input reads as it did. -/
def fnExactWorstCheckSpec : ChangeSpec := { name := "fnExactWorstCheck", fn := fun _ => fun
  | [d1, d2] => { results := [.lit (.bool true)], args := [d1, d2] }
  | _ => none }
def fnExactWorstCheckRow : OpenClaim := { program := "ytpfmhoikhnhdcaa", sum := "efed5e67fc398db70fe3ba7c74e11078a3537319c89dcb27dfb9c57de0a1cedb", func := "loop.example/g00933/laws.FnExactWorstCheck", spec := "fnExactWorstCheck", recurses := true, apart := false }
def FnExactWorstCheckSaid : Prop := fnExactWorstCheckRow.holds Try.pinned (OpenSpec.ofChange fnExactWorstCheckSpec)

/-- ITS FALSE NEIGHBOUR: 'it returns false'. Refute it at one input. -/
def fnExactWorstCheckWrong : ChangeSpec := { name := "fnExactWorstCheck", fn := fun _ => fun
  | [d1, d2] => { results := [.lit (.bool false)], args := [d1, d2] }
  | _ => none }
def FnExactWorstCheckWrongFalsely : Prop := fnExactWorstCheckRow.holds Try.pinned (OpenSpec.ofChange fnExactWorstCheckWrong)

/-- 'laws.FnExactFitScale': WHATEVER THE INPUT: true; the input reads as it did. -/
def fnExactFitScaleSpec : ChangeSpec := { name := "fnExactFitScale", fn := fun _ => fun
  | [d1, d2] => { results := [.lit (.bool true)], args := [d1, d2] }
  | _ => none }
def fnExactFitScaleRow : OpenClaim := { program := "ytpfmhoikhnhdcaa", sum := "efed5e67fc398db70fe3ba7c74e11078a3537319c89dcb27dfb9c57de0a1cedb", func := "loop.example/g00933/laws.FnExactFitScale", spec := "fnExactFitScale", recurses := true, apart := false }
def FnExactFitScaleSaid : Prop := fnExactFitScaleRow.holds Try.pinned (OpenSpec.ofChange fnExactFitScaleSpec)

/-- ITS FALSE NEIGHBOUR: 'it returns false'. Refute it at one input. -/
def fnExactFitScaleWrong : ChangeSpec := { name := "fnExactFitScale", fn := fun _ => fun
  | [d1, d2] => { results := [.lit (.bool false)], args := [d1, d2] }
  | _ => none }
def FnExactFitScaleWrongFalsely : Prop := fnExactFitScaleRow.holds Try.pinned (OpenSpec.ofChange fnExactFitScaleWrong)

/-- 'laws.FnExactFitZero': WHATEVER THE INPUT: true; the input reads as it did. -/
def fnExactFitZeroSpec : ChangeSpec := { name := "fnExactFitZero", fn := fun _ => fun
  | [d1, d2] => { results := [.lit (.bool true)], args := [d1, d2] }
  | _ => none }
def fnExactFitZeroRow : OpenClaim := { program := "ytpfmhoikhnhdcaa", sum := "efed5e67fc398db70fe3ba7c74e11078a3537319c89dcb27dfb9c57de0a1cedb", func := "loop.example/g00933/laws.FnExactFitZero", spec := "fnExactFitZero", recurses := true, apart := false }
def FnExactFitZeroSaid : Prop := fnExactFitZeroRow.holds Try.pinned (OpenSpec.ofChange fnExactFitZeroSpec)

/-- ITS FALSE NEIGHBOUR: 'it returns false'. Refute it at one input. -/
def fnExactFitZeroWrong : ChangeSpec := { name := "fnExactFitZero", fn := fun _ => fun
  | [d1, d2] => { results := [.lit (.bool false)], args := [d1, d2] }
  | _ => none }
def FnExactFitZeroWrongFalsely : Prop := fnExactFitZeroRow.holds Try.pinned (OpenSpec.ofChange fnExactFitZeroWrong)

/-- 'laws.FnExactLegsLength': WHATEVER THE INPUT: true; the input reads as it did. -/
def fnExactLegsLengthSpec : ChangeSpec := { name := "fnExactLegsLength", fn := fun _ => fun
  | [d] => { results := [.lit (.bool true)], args := [d] }
  | _ => none }
def fnExactLegsLengthRow : OpenClaim := { program := "ytpfmhoikhnhdcaa", sum := "efed5e67fc398db70fe3ba7c74e11078a3537319c89dcb27dfb9c57de0a1cedb", func := "loop.example/g00933/laws.FnExactLegsLength", spec := "fnExactLegsLength", apart := false }
def FnExactLegsLengthSaid : Prop := fnExactLegsLengthRow.holds Try.pinned (OpenSpec.ofChange fnExactLegsLengthSpec)

/-- ITS FALSE NEIGHBOUR: 'it returns false'. Refute it at one input. -/
def fnExactLegsLengthWrong : ChangeSpec := { name := "fnExactLegsLength", fn := fun _ => fun
  | [d] => { results := [.lit (.bool false)], args := [d] }
  | _ => none }
def FnExactLegsLengthWrongFalsely : Prop := fnExactLegsLengthRow.holds Try.pinned (OpenSpec.ofChange fnExactLegsLengthWrong)

/-- 'laws.FnExactLegsAt': WHATEVER THE INPUT: true; the input reads as it did. -/
def fnExactLegsAtSpec : ChangeSpec := { name := "fnExactLegsAt", fn := fun _ => fun
  | [d1, d2] => { results := [.lit (.bool true)], args := [d1, d2] }
  | _ => none }
def fnExactLegsAtRow : OpenClaim := { program := "ytpfmhoikhnhdcaa", sum := "efed5e67fc398db70fe3ba7c74e11078a3537319c89dcb27dfb9c57de0a1cedb", func := "loop.example/g00933/laws.FnExactLegsAt", spec := "fnExactLegsAt", apart := false }
def FnExactLegsAtSaid : Prop := fnExactLegsAtRow.holds Try.pinned (OpenSpec.ofChange fnExactLegsAtSpec)

/-- ITS FALSE NEIGHBOUR: 'it returns false'. Refute it at one input. -/
def fnExactLegsAtWrong : ChangeSpec := { name := "fnExactLegsAt", fn := fun _ => fun
  | [d1, d2] => { results := [.lit (.bool false)], args := [d1, d2] }
  | _ => none }
def FnExactLegsAtWrongFalsely : Prop := fnExactLegsAtRow.holds Try.pinned (OpenSpec.ofChange fnExactLegsAtWrong)

/-- 'laws.FnTools': WHATEVER THE INPUT: true; the input reads as it did. -/
def fnToolsSpec : ChangeSpec := { name := "fnTools", fn := fun _ => fun
  | [d] => { results := [.lit (.bool true)], args := [d] }
  | _ => none }
def fnToolsRow : OpenClaim := { program := "ytpfmhoikhnhdcaa", sum := "efed5e67fc398db70fe3ba7c74e11078a3537319c89dcb27dfb9c57de0a1cedb", func := "loop.example/g00933/laws.FnTools", spec := "fnTools", recurses := true, apart := false }
def FnToolsSaid : Prop := fnToolsRow.holds Try.pinned (OpenSpec.ofChange fnToolsSpec)

/-- ITS FALSE NEIGHBOUR: 'it returns false'. Refute it at one input. -/
def fnToolsWrong : ChangeSpec := { name := "fnTools", fn := fun _ => fun
  | [d] => { results := [.lit (.bool false)], args := [d] }
  | _ => none }
def FnToolsWrongFalsely : Prop := fnToolsRow.holds Try.pinned (OpenSpec.ofChange fnToolsWrong)

/-- 'laws.FnToolKinds': WHATEVER THE INPUT: true; the input reads as it did. -/
def fnToolKindsSpec : ChangeSpec := { name := "fnToolKinds", fn := fun _ => fun
  | [d] => { results := [.lit (.bool true)], args := [d] }
  | _ => none }
def fnToolKindsRow : OpenClaim := { program := "ytpfmhoikhnhdcaa", sum := "efed5e67fc398db70fe3ba7c74e11078a3537319c89dcb27dfb9c57de0a1cedb", func := "loop.example/g00933/laws.FnToolKinds", spec := "fnToolKinds", recurses := true, apart := false }
def FnToolKindsSaid : Prop := fnToolKindsRow.holds Try.pinned (OpenSpec.ofChange fnToolKindsSpec)

/-- ITS FALSE NEIGHBOUR: 'it returns false'. Refute it at one input. -/
def fnToolKindsWrong : ChangeSpec := { name := "fnToolKinds", fn := fun _ => fun
  | [d] => { results := [.lit (.bool false)], args := [d] }
  | _ => none }
def FnToolKindsWrongFalsely : Prop := fnToolKindsRow.holds Try.pinned (OpenSpec.ofChange fnToolKindsWrong)

/- THE SECOND FORM. 'bulk': how many values and letters a reading holds, each counted each time it is reached (what is shared counts as often as it is met; a slice's spare places count too). A statement '..UptoSaid' is the law's where the arguments, and the package variables that the reading takes, are together of bulk at most 1048576: NARROWER than '..Said'. Prove '..Said' where nothing that the law and all that it calls make is longer than what came in: it says more and counts as full. Else prove '..UptoSaid'. A law counts once. -/
mutual
def uptoBulk {H : Type} : DataW H → Nat
  | .lit (.string bytes) => bytes.length + 1
  | .lit _ => 1
  | .nil => 1
  | .ptr d => uptoBulk d + 1
  | .slice elems spare => uptoBulkAll elems + uptoBulkAll spare + 1
  | .agg parts => uptoBulkAll parts + 1
  | .iface _ d => uptoBulk d + 1
  | .map entries => uptoBulkEntries entries + 1
  | .held _ => 1
def uptoBulkAll {H : Type} : List (DataW H) → Nat
  | [] => 0
  | d :: r => uptoBulk d + uptoBulkAll r
def uptoBulkEntries {H : Type} : List (Lit × DataW H) → Nat
  | [] => 0
  | x :: r => uptoBulkEntry x + uptoBulkEntries r
def uptoBulkEntry {H : Type} : Lit × DataW H → Nat
  | (.string bytes, d) => bytes.length + uptoBulk d + 1
  | (_, d) => uptoBulk d + 1
 end
def uptoSmall : (H : Type) → List (DataW H) → Bool := fun _ ds => decide (uptoBulkAll ds ≤ 1048576)
def OpenSpec.upto (s : _root_.Go.ChangeSpec) : _root_.Go.OpenSpec := { _root_.Go.OpenSpec.ofChange s with cond := some uptoSmall }

/-- 'laws.FnExactSplitString', WHERE WHAT IT READS IS OF BULK AT MOST 1048576: true; the input reads as it did. -/
def fnExactSplitStringUptoRow : OpenClaim := { program := "ytpfmhoikhnhdcaa", sum := "efed5e67fc398db70fe3ba7c74e11078a3537319c89dcb27dfb9c57de0a1cedb", func := "loop.example/g00933/laws.FnExactSplitString", spec := "fnExactSplitString", inPlace := ["internal/bytealg.IndexByteString"], apart := false, narrowed := true }
def FnExactSplitStringUptoSaid : Prop := fnExactSplitStringUptoRow.holds Try.pinned (OpenSpec.upto fnExactSplitStringSpec)

/-- 'laws.FnExactJoinStrings', WHERE WHAT IT READS IS OF BULK AT MOST 1048576: true; the input reads as it did. -/
def fnExactJoinStringsUptoRow : OpenClaim := { program := "ytpfmhoikhnhdcaa", sum := "efed5e67fc398db70fe3ba7c74e11078a3537319c89dcb27dfb9c57de0a1cedb", func := "loop.example/g00933/laws.FnExactJoinStrings", spec := "fnExactJoinStrings", inPlace := ["internal/bytealg.IndexByteString", "internal/abi.NoEscape", "internal/bytealg.MakeNoZero"], apart := false, narrowed := true }
def FnExactJoinStringsUptoSaid : Prop := fnExactJoinStringsUptoRow.holds Try.pinned (OpenSpec.upto fnExactJoinStringsSpec)

/-- 'laws.FnSplitJoin', WHERE WHAT IT READS IS OF BULK AT MOST 1048576: true; the input reads as it did. -/
def fnSplitJoinUptoRow : OpenClaim := { program := "ytpfmhoikhnhdcaa", sum := "efed5e67fc398db70fe3ba7c74e11078a3537319c89dcb27dfb9c57de0a1cedb", func := "loop.example/g00933/laws.FnSplitJoin", spec := "fnSplitJoin", inPlace := ["internal/bytealg.IndexByteString", "internal/abi.NoEscape", "internal/bytealg.MakeNoZero"], apart := false, narrowed := true }
def FnSplitJoinUptoSaid : Prop := fnSplitJoinUptoRow.holds Try.pinned (OpenSpec.upto fnSplitJoinSpec)

/-- 'laws.FnExactCheckError', WHERE WHAT IT READS IS OF BULK AT MOST 1048576: true; the input reads as it did. -/
def fnExactCheckErrorUptoRow : OpenClaim := { program := "ytpfmhoikhnhdcaa", sum := "efed5e67fc398db70fe3ba7c74e11078a3537319c89dcb27dfb9c57de0a1cedb", func := "loop.example/g00933/laws.FnExactCheckError", spec := "fnExactCheckError", recurses := true, apart := false, narrowed := true }
def FnExactCheckErrorUptoSaid : Prop := fnExactCheckErrorUptoRow.holds Try.pinned (OpenSpec.upto fnExactCheckErrorSpec)

/-- 'laws.FnExactToolsOf', WHERE WHAT IT READS IS OF BULK AT MOST 1048576: true; the input reads as it did. -/
def fnExactToolsOfUptoRow : OpenClaim := { program := "ytpfmhoikhnhdcaa", sum := "efed5e67fc398db70fe3ba7c74e11078a3537319c89dcb27dfb9c57de0a1cedb", func := "loop.example/g00933/laws.FnExactToolsOf", spec := "fnExactToolsOf", apart := false, narrowed := true }
def FnExactToolsOfUptoSaid : Prop := fnExactToolsOfUptoRow.holds Try.pinned (OpenSpec.upto fnExactToolsOfSpec)

/-- 'laws.FnExactWorstCheck', WHERE WHAT IT READS IS OF BULK AT MOST 1048576: true; the input reads as it did. -/
def fnExactWorstCheckUptoRow : OpenClaim := { program := "ytpfmhoikhnhdcaa", sum := "efed5e67fc398db70fe3ba7c74e11078a3537319c89dcb27dfb9c57de0a1cedb", func := "loop.example/g00933/laws.FnExactWorstCheck", spec := "fnExactWorstCheck", recurses := true, apart := false, narrowed := true }
def FnExactWorstCheckUptoSaid : Prop := fnExactWorstCheckUptoRow.holds Try.pinned (OpenSpec.upto fnExactWorstCheckSpec)

/-- 'laws.FnExactFitScale', WHERE WHAT IT READS IS OF BULK AT MOST 1048576: true; the input reads as it did. -/
def fnExactFitScaleUptoRow : OpenClaim := { program := "ytpfmhoikhnhdcaa", sum := "efed5e67fc398db70fe3ba7c74e11078a3537319c89dcb27dfb9c57de0a1cedb", func := "loop.example/g00933/laws.FnExactFitScale", spec := "fnExactFitScale", recurses := true, apart := false, narrowed := true }
def FnExactFitScaleUptoSaid : Prop := fnExactFitScaleUptoRow.holds Try.pinned (OpenSpec.upto fnExactFitScaleSpec)

/-- 'laws.FnExactFitZero', WHERE WHAT IT READS IS OF BULK AT MOST 1048576: true; the input reads as it did. -/
def fnExactFitZeroUptoRow : OpenClaim := { program := "ytpfmhoikhnhdcaa", sum := "efed5e67fc398db70fe3ba7c74e11078a3537319c89dcb27dfb9c57de0a1cedb", func := "loop.example/g00933/laws.FnExactFitZero", spec := "fnExactFitZero", recurses := true, apart := false, narrowed := true }
def FnExactFitZeroUptoSaid : Prop := fnExactFitZeroUptoRow.holds Try.pinned (OpenSpec.upto fnExactFitZeroSpec)

/-- 'laws.FnExactLegsLength', WHERE WHAT IT READS IS OF BULK AT MOST 1048576: true; the input reads as it did. -/
def fnExactLegsLengthUptoRow : OpenClaim := { program := "ytpfmhoikhnhdcaa", sum := "efed5e67fc398db70fe3ba7c74e11078a3537319c89dcb27dfb9c57de0a1cedb", func := "loop.example/g00933/laws.FnExactLegsLength", spec := "fnExactLegsLength", apart := false, narrowed := true }
def FnExactLegsLengthUptoSaid : Prop := fnExactLegsLengthUptoRow.holds Try.pinned (OpenSpec.upto fnExactLegsLengthSpec)

/-- 'laws.FnExactLegsAt', WHERE WHAT IT READS IS OF BULK AT MOST 1048576: true; the input reads as it did. -/
def fnExactLegsAtUptoRow : OpenClaim := { program := "ytpfmhoikhnhdcaa", sum := "efed5e67fc398db70fe3ba7c74e11078a3537319c89dcb27dfb9c57de0a1cedb", func := "loop.example/g00933/laws.FnExactLegsAt", spec := "fnExactLegsAt", apart := false, narrowed := true }
def FnExactLegsAtUptoSaid : Prop := fnExactLegsAtUptoRow.holds Try.pinned (OpenSpec.upto fnExactLegsAtSpec)

/-- 'laws.FnTools', WHERE WHAT IT READS IS OF BULK AT MOST 1048576: true; the input reads as it did. -/
def fnToolsUptoRow : OpenClaim := { program := "ytpfmhoikhnhdcaa", sum := "efed5e67fc398db70fe3ba7c74e11078a3537319c89dcb27dfb9c57de0a1cedb", func := "loop.example/g00933/laws.FnTools", spec := "fnTools", recurses := true, apart := false, narrowed := true }
def FnToolsUptoSaid : Prop := fnToolsUptoRow.holds Try.pinned (OpenSpec.upto fnToolsSpec)

/-- 'laws.FnToolKinds', WHERE WHAT IT READS IS OF BULK AT MOST 1048576: true; the input reads as it did. -/
def fnToolKindsUptoRow : OpenClaim := { program := "ytpfmhoikhnhdcaa", sum := "efed5e67fc398db70fe3ba7c74e11078a3537319c89dcb27dfb9c57de0a1cedb", func := "loop.example/g00933/laws.FnToolKinds", spec := "fnToolKinds", recurses := true, apart := false, narrowed := true }
def FnToolKindsUptoSaid : Prop := fnToolKindsUptoRow.holds Try.pinned (OpenSpec.upto fnToolKindsSpec)

end Rows
end Go.Proofs.Ytpfmhoikhnhdcaa
