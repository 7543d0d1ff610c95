/-
  No cell of these rows narrows 'for every input' (looked for: loops, veiled, ifaces, maps, wideKeys, modest, calm, conditions, laid).
  DERIVED. THE GIVEN ROWS OF THIS SEAT. 12 by the template 'for every input the law returns true; each argument reads behind the call as it read before'; 0 by the template 'total and deterministic' (their statements: YtldbeelhmplmcaaTotals.lean).
  GIVEN WITH THE SEED: the statements are not yours to turn. If you find one false, say at which input.
  Laid BY PROGRAM, IN A SANDBOX (cutbox-rows.mjs): the forced cells as the released guide's own fill.sh prints them over the translation 6d1b3dcd0b840441… (all of the seat's roots in one cut). By AI agents, Wed Nov 11 2026. No macro, syntax, notation, axiom, sorry.
-/
import Derived.Test.YtldbeelhmplmcaaChecked
import GoSem.Claim
import GoSem.ClaimJoined
import GoSem.ClaimMapViews
import Derived.JoinedTies
import Derived.KernelRfl
namespace Go.Proofs.Ytldbeelhmplmcaa
/- THE CELL 'sum', in the pinned program and in every row, IS THE sha256 OF THE DUMP (.gsa) THAT YtldbeelhmplmcaaProg.lean LOADS. Nothing in Lean hashes anything: it is a label: what it is worth is what the hold of that sum in a sandbox is worth. -/
noncomputable def Try.pinned : Pinned := { name := "ytldbeelhmplmcaa", sum := "6d1b3dcd0b840441b4ace65385445b1c019fa7d3b300220947bfe795134b6ba3", checked := Try.checked }
namespace Rows
def none {H : Type} : Left H := { results := [], args := [] }

/-- 'laws.FnExactConstants': WHATEVER THE INPUT: true; the input reads as it did. -/
def fnExactConstantsSpec : ChangeSpec := { name := "fnExactConstants", fn := fun _ => fun
  | [] => { results := [.lit (.bool true)], args := [] }
  | _ => none }
def fnExactConstantsRow : OpenClaim := { program := "ytldbeelhmplmcaa", sum := "6d1b3dcd0b840441b4ace65385445b1c019fa7d3b300220947bfe795134b6ba3", func := "loop.example/g00933/laws.FnExactConstants", spec := "fnExactConstants", apart := false }
def FnExactConstantsSaid : Prop := fnExactConstantsRow.holds Try.pinned (OpenSpec.ofChange fnExactConstantsSpec)

/-- ITS FALSE NEIGHBOUR: 'it returns false'. Refute it at one input. -/
def fnExactConstantsWrong : ChangeSpec := { name := "fnExactConstants", fn := fun _ => fun
  | [] => { results := [.lit (.bool false)], args := [] }
  | _ => none }
def FnExactConstantsWrongFalsely : Prop := fnExactConstantsRow.holds Try.pinned (OpenSpec.ofChange fnExactConstantsWrong)

/-- 'laws.FnExactLessString': WHATEVER THE INPUT: true; the input reads as it did. -/
def fnExactLessStringSpec : ChangeSpec := { name := "fnExactLessString", fn := fun _ => fun
  | [d1, d2] => { results := [.lit (.bool true)], args := [d1, d2] }
  | _ => none }
def fnExactLessStringRow : OpenClaim := { program := "ytldbeelhmplmcaa", sum := "6d1b3dcd0b840441b4ace65385445b1c019fa7d3b300220947bfe795134b6ba3", func := "loop.example/g00933/laws.FnExactLessString", spec := "fnExactLessString", apart := false }
def FnExactLessStringSaid : Prop := fnExactLessStringRow.holds Try.pinned (OpenSpec.ofChange fnExactLessStringSpec)

/-- ITS FALSE NEIGHBOUR: 'it returns false'. Refute it at one input. -/
def fnExactLessStringWrong : ChangeSpec := { name := "fnExactLessString", fn := fun _ => fun
  | [d1, d2] => { results := [.lit (.bool false)], args := [d1, d2] }
  | _ => none }
def FnExactLessStringWrongFalsely : Prop := fnExactLessStringRow.holds Try.pinned (OpenSpec.ofChange fnExactLessStringWrong)

/-- 'laws.FnExactBackBearing': WHATEVER THE INPUT: true; the input reads as it did. -/
def fnExactBackBearingSpec : ChangeSpec := { name := "fnExactBackBearing", fn := fun _ => fun
  | [d] => { results := [.lit (.bool true)], args := [d] }
  | _ => none }
def fnExactBackBearingRow : OpenClaim := { program := "ytldbeelhmplmcaa", sum := "6d1b3dcd0b840441b4ace65385445b1c019fa7d3b300220947bfe795134b6ba3", func := "loop.example/g00933/laws.FnExactBackBearing", spec := "fnExactBackBearing", apart := false }
def FnExactBackBearingSaid : Prop := fnExactBackBearingRow.holds Try.pinned (OpenSpec.ofChange fnExactBackBearingSpec)

/-- ITS FALSE NEIGHBOUR: 'it returns false'. Refute it at one input. -/
def fnExactBackBearingWrong : ChangeSpec := { name := "fnExactBackBearing", fn := fun _ => fun
  | [d] => { results := [.lit (.bool false)], args := [d] }
  | _ => none }
def FnExactBackBearingWrongFalsely : Prop := fnExactBackBearingRow.holds Try.pinned (OpenSpec.ofChange fnExactBackBearingWrong)

/-- 'laws.FnExactIsLeg': WHATEVER THE INPUT: true; the input reads as it did. -/
def fnExactIsLegSpec : ChangeSpec := { name := "fnExactIsLeg", fn := fun _ => fun
  | [d] => { results := [.lit (.bool true)], args := [d] }
  | _ => none }
def fnExactIsLegRow : OpenClaim := { program := "ytldbeelhmplmcaa", sum := "6d1b3dcd0b840441b4ace65385445b1c019fa7d3b300220947bfe795134b6ba3", func := "loop.example/g00933/laws.FnExactIsLeg", spec := "fnExactIsLeg", apart := false }
def FnExactIsLegSaid : Prop := fnExactIsLegRow.holds Try.pinned (OpenSpec.ofChange fnExactIsLegSpec)

/-- ITS FALSE NEIGHBOUR: 'it returns false'. Refute it at one input. -/
def fnExactIsLegWrong : ChangeSpec := { name := "fnExactIsLeg", fn := fun _ => fun
  | [d] => { results := [.lit (.bool false)], args := [d] }
  | _ => none }
def FnExactIsLegWrongFalsely : Prop := fnExactIsLegRow.holds Try.pinned (OpenSpec.ofChange fnExactIsLegWrong)

/-- 'laws.FnExactChecksum': WHATEVER THE INPUT: true; the input reads as it did. -/
def fnExactChecksumSpec : ChangeSpec := { name := "fnExactChecksum", fn := fun _ => fun
  | [d] => { results := [.lit (.bool true)], args := [d] }
  | _ => none }
def fnExactChecksumRow : OpenClaim := { program := "ytldbeelhmplmcaa", sum := "6d1b3dcd0b840441b4ace65385445b1c019fa7d3b300220947bfe795134b6ba3", func := "loop.example/g00933/laws.FnExactChecksum", spec := "fnExactChecksum", apart := false }
def FnExactChecksumSaid : Prop := fnExactChecksumRow.holds Try.pinned (OpenSpec.ofChange fnExactChecksumSpec)

/-- ITS FALSE NEIGHBOUR: 'it returns false'. Refute it at one input. -/
def fnExactChecksumWrong : ChangeSpec := { name := "fnExactChecksum", fn := fun _ => fun
  | [d] => { results := [.lit (.bool false)], args := [d] }
  | _ => none }
def FnExactChecksumWrongFalsely : Prop := fnExactChecksumRow.holds Try.pinned (OpenSpec.ofChange fnExactChecksumWrong)

/-- 'laws.FnExactRoundedDiv': WHATEVER THE INPUT: true; the input reads as it did. -/
def fnExactRoundedDivSpec : ChangeSpec := { name := "fnExactRoundedDiv", fn := fun _ => fun
  | [d1, d2] => { results := [.lit (.bool true)], args := [d1, d2] }
  | _ => none }
def fnExactRoundedDivRow : OpenClaim := { program := "ytldbeelhmplmcaa", sum := "6d1b3dcd0b840441b4ace65385445b1c019fa7d3b300220947bfe795134b6ba3", func := "loop.example/g00933/laws.FnExactRoundedDiv", spec := "fnExactRoundedDiv", recurses := true, apart := false }
def FnExactRoundedDivSaid : Prop := fnExactRoundedDivRow.holds Try.pinned (OpenSpec.ofChange fnExactRoundedDivSpec)

/-- ITS FALSE NEIGHBOUR: 'it returns false'. Refute it at one input. -/
def fnExactRoundedDivWrong : ChangeSpec := { name := "fnExactRoundedDiv", fn := fun _ => fun
  | [d1, d2] => { results := [.lit (.bool false)], args := [d1, d2] }
  | _ => none }
def FnExactRoundedDivWrongFalsely : Prop := fnExactRoundedDivRow.holds Try.pinned (OpenSpec.ofChange fnExactRoundedDivWrong)

/-- 'laws.FnExactIsTool': WHATEVER THE INPUT: true; the input reads as it did. -/
def fnExactIsToolSpec : ChangeSpec := { name := "fnExactIsTool", fn := fun _ => fun
  | [d] => { results := [.lit (.bool true)], args := [d] }
  | _ => none }
def fnExactIsToolRow : OpenClaim := { program := "ytldbeelhmplmcaa", sum := "6d1b3dcd0b840441b4ace65385445b1c019fa7d3b300220947bfe795134b6ba3", func := "loop.example/g00933/laws.FnExactIsTool", spec := "fnExactIsTool", apart := false }
def FnExactIsToolSaid : Prop := fnExactIsToolRow.holds Try.pinned (OpenSpec.ofChange fnExactIsToolSpec)

/-- ITS FALSE NEIGHBOUR: 'it returns false'. Refute it at one input. -/
def fnExactIsToolWrong : ChangeSpec := { name := "fnExactIsTool", fn := fun _ => fun
  | [d] => { results := [.lit (.bool false)], args := [d] }
  | _ => none }
def FnExactIsToolWrongFalsely : Prop := fnExactIsToolRow.holds Try.pinned (OpenSpec.ofChange fnExactIsToolWrong)

/-- 'laws.FnExactTurnBetween': WHATEVER THE INPUT: true; the input reads as it did. -/
def fnExactTurnBetweenSpec : ChangeSpec := { name := "fnExactTurnBetween", fn := fun _ => fun
  | [d1, d2] => { results := [.lit (.bool true)], args := [d1, d2] }
  | _ => none }
def fnExactTurnBetweenRow : OpenClaim := { program := "ytldbeelhmplmcaa", sum := "6d1b3dcd0b840441b4ace65385445b1c019fa7d3b300220947bfe795134b6ba3", func := "loop.example/g00933/laws.FnExactTurnBetween", spec := "fnExactTurnBetween", apart := false }
def FnExactTurnBetweenSaid : Prop := fnExactTurnBetweenRow.holds Try.pinned (OpenSpec.ofChange fnExactTurnBetweenSpec)

/-- ITS FALSE NEIGHBOUR: 'it returns false'. Refute it at one input. -/
def fnExactTurnBetweenWrong : ChangeSpec := { name := "fnExactTurnBetween", fn := fun _ => fun
  | [d1, d2] => { results := [.lit (.bool false)], args := [d1, d2] }
  | _ => none }
def FnExactTurnBetweenWrongFalsely : Prop := fnExactTurnBetweenRow.holds Try.pinned (OpenSpec.ofChange fnExactTurnBetweenWrong)

/-- 'laws.FnExactLengthOf': WHATEVER THE INPUT: true; the input reads as it did. -/
def fnExactLengthOfSpec : ChangeSpec := { name := "fnExactLengthOf", fn := fun _ => fun
  | [d1, d2, d3] => { results := [.lit (.bool true)], args := [d1, d2, d3] }
  | _ => none }
def fnExactLengthOfRow : OpenClaim := { program := "ytldbeelhmplmcaa", sum := "6d1b3dcd0b840441b4ace65385445b1c019fa7d3b300220947bfe795134b6ba3", func := "loop.example/g00933/laws.FnExactLengthOf", spec := "fnExactLengthOf", apart := false }
def FnExactLengthOfSaid : Prop := fnExactLengthOfRow.holds Try.pinned (OpenSpec.ofChange fnExactLengthOfSpec)

/-- ITS FALSE NEIGHBOUR: 'it returns false'. Refute it at one input. -/
def fnExactLengthOfWrong : ChangeSpec := { name := "fnExactLengthOf", fn := fun _ => fun
  | [d1, d2, d3] => { results := [.lit (.bool false)], args := [d1, d2, d3] }
  | _ => none }
def FnExactLengthOfWrongFalsely : Prop := fnExactLengthOfRow.holds Try.pinned (OpenSpec.ofChange fnExactLengthOfWrong)

/-- 'laws.FnExactAreTools': WHATEVER THE INPUT: true; the input reads as it did. -/
def fnExactAreToolsSpec : ChangeSpec := { name := "fnExactAreTools", fn := fun _ => fun
  | [d] => { results := [.lit (.bool true)], args := [d] }
  | _ => none }
def fnExactAreToolsRow : OpenClaim := { program := "ytldbeelhmplmcaa", sum := "6d1b3dcd0b840441b4ace65385445b1c019fa7d3b300220947bfe795134b6ba3", func := "loop.example/g00933/laws.FnExactAreTools", spec := "fnExactAreTools", apart := false }
def FnExactAreToolsSaid : Prop := fnExactAreToolsRow.holds Try.pinned (OpenSpec.ofChange fnExactAreToolsSpec)

/-- ITS FALSE NEIGHBOUR: 'it returns false'. Refute it at one input. -/
def fnExactAreToolsWrong : ChangeSpec := { name := "fnExactAreTools", fn := fun _ => fun
  | [d] => { results := [.lit (.bool false)], args := [d] }
  | _ => none }
def FnExactAreToolsWrongFalsely : Prop := fnExactAreToolsRow.holds Try.pinned (OpenSpec.ofChange fnExactAreToolsWrong)

/-- 'laws.FnExactCorrectReading': WHATEVER THE INPUT: true; the input reads as it did. -/
def fnExactCorrectReadingSpec : ChangeSpec := { name := "fnExactCorrectReading", fn := fun _ => fun
  | [d1, d2] => { results := [.lit (.bool true)], args := [d1, d2] }
  | _ => none }
def fnExactCorrectReadingRow : OpenClaim := { program := "ytldbeelhmplmcaa", sum := "6d1b3dcd0b840441b4ace65385445b1c019fa7d3b300220947bfe795134b6ba3", func := "loop.example/g00933/laws.FnExactCorrectReading", spec := "fnExactCorrectReading", recurses := true, apart := false }
def FnExactCorrectReadingSaid : Prop := fnExactCorrectReadingRow.holds Try.pinned (OpenSpec.ofChange fnExactCorrectReadingSpec)

/-- ITS FALSE NEIGHBOUR: 'it returns false'. Refute it at one input. -/
def fnExactCorrectReadingWrong : ChangeSpec := { name := "fnExactCorrectReading", fn := fun _ => fun
  | [d1, d2] => { results := [.lit (.bool false)], args := [d1, d2] }
  | _ => none }
def FnExactCorrectReadingWrongFalsely : Prop := fnExactCorrectReadingRow.holds Try.pinned (OpenSpec.ofChange fnExactCorrectReadingWrong)

/-- 'laws.FnExactReadBack': WHATEVER THE INPUT: true; the input reads as it did. -/
def fnExactReadBackSpec : ChangeSpec := { name := "fnExactReadBack", fn := fun _ => fun
  | [d1, d2] => { results := [.lit (.bool true)], args := [d1, d2] }
  | _ => none }
def fnExactReadBackRow : OpenClaim := { program := "ytldbeelhmplmcaa", sum := "6d1b3dcd0b840441b4ace65385445b1c019fa7d3b300220947bfe795134b6ba3", func := "loop.example/g00933/laws.FnExactReadBack", spec := "fnExactReadBack", recurses := true, apart := false }
def FnExactReadBackSaid : Prop := fnExactReadBackRow.holds Try.pinned (OpenSpec.ofChange fnExactReadBackSpec)

/-- ITS FALSE NEIGHBOUR: 'it returns false'. Refute it at one input. -/
def fnExactReadBackWrong : ChangeSpec := { name := "fnExactReadBack", fn := fun _ => fun
  | [d1, d2] => { results := [.lit (.bool false)], args := [d1, d2] }
  | _ => none }
def FnExactReadBackWrongFalsely : Prop := fnExactReadBackRow.holds Try.pinned (OpenSpec.ofChange fnExactReadBackWrong)

/- THE SECOND FORM. 'bulk': how many values and letters a reading holds, each counted each time it is reached (what is shared counts as often as it is met; a slice's spare places count too). A statement '..UptoSaid' is the law's where the arguments, and the package variables that the reading takes, are together of bulk at most 1048576: NARROWER than '..Said'. Prove '..Said' where nothing that the law and all that it calls make is longer than what came in: it says more and counts as full. Else prove '..UptoSaid'. A law counts once. -/
mutual
def uptoBulk {H : Type} : DataW H → Nat
  | .lit (.string bytes) => bytes.length + 1
  | .lit _ => 1
  | .nil => 1
  | .ptr d => uptoBulk d + 1
  | .slice elems spare => uptoBulkAll elems + uptoBulkAll spare + 1
  | .agg parts => uptoBulkAll parts + 1
  | .iface _ d => uptoBulk d + 1
  | .map entries => uptoBulkEntries entries + 1
  | .held _ => 1
def uptoBulkAll {H : Type} : List (DataW H) → Nat
  | [] => 0
  | d :: r => uptoBulk d + uptoBulkAll r
def uptoBulkEntries {H : Type} : List (Lit × DataW H) → Nat
  | [] => 0
  | x :: r => uptoBulkEntry x + uptoBulkEntries r
def uptoBulkEntry {H : Type} : Lit × DataW H → Nat
  | (.string bytes, d) => bytes.length + uptoBulk d + 1
  | (_, d) => uptoBulk d + 1
 end
def uptoSmall : (H : Type) → List (DataW H) → Bool := fun _ ds => decide (uptoBulkAll ds ≤ 1048576)
def OpenSpec.upto (s : _root_.Go.ChangeSpec) : _root_.Go.OpenSpec := { _root_.Go.OpenSpec.ofChange s with cond := some uptoSmall }

/-- 'laws.FnExactConstants', WHERE WHAT IT READS IS OF BULK AT MOST 1048576: true; the input reads as it did. -/
def fnExactConstantsUptoRow : OpenClaim := { program := "ytldbeelhmplmcaa", sum := "6d1b3dcd0b840441b4ace65385445b1c019fa7d3b300220947bfe795134b6ba3", func := "loop.example/g00933/laws.FnExactConstants", spec := "fnExactConstants", apart := false, narrowed := true }
def FnExactConstantsUptoSaid : Prop := fnExactConstantsUptoRow.holds Try.pinned (OpenSpec.upto fnExactConstantsSpec)

/-- 'laws.FnExactLessString', WHERE WHAT IT READS IS OF BULK AT MOST 1048576: true; the input reads as it did. -/
def fnExactLessStringUptoRow : OpenClaim := { program := "ytldbeelhmplmcaa", sum := "6d1b3dcd0b840441b4ace65385445b1c019fa7d3b300220947bfe795134b6ba3", func := "loop.example/g00933/laws.FnExactLessString", spec := "fnExactLessString", apart := false, narrowed := true }
def FnExactLessStringUptoSaid : Prop := fnExactLessStringUptoRow.holds Try.pinned (OpenSpec.upto fnExactLessStringSpec)

/-- 'laws.FnExactBackBearing', WHERE WHAT IT READS IS OF BULK AT MOST 1048576: true; the input reads as it did. -/
def fnExactBackBearingUptoRow : OpenClaim := { program := "ytldbeelhmplmcaa", sum := "6d1b3dcd0b840441b4ace65385445b1c019fa7d3b300220947bfe795134b6ba3", func := "loop.example/g00933/laws.FnExactBackBearing", spec := "fnExactBackBearing", apart := false, narrowed := true }
def FnExactBackBearingUptoSaid : Prop := fnExactBackBearingUptoRow.holds Try.pinned (OpenSpec.upto fnExactBackBearingSpec)

/-- 'laws.FnExactIsLeg', WHERE WHAT IT READS IS OF BULK AT MOST 1048576: true; the input reads as it did. -/
def fnExactIsLegUptoRow : OpenClaim := { program := "ytldbeelhmplmcaa", sum := "6d1b3dcd0b840441b4ace65385445b1c019fa7d3b300220947bfe795134b6ba3", func := "loop.example/g00933/laws.FnExactIsLeg", spec := "fnExactIsLeg", apart := false, narrowed := true }
def FnExactIsLegUptoSaid : Prop := fnExactIsLegUptoRow.holds Try.pinned (OpenSpec.upto fnExactIsLegSpec)

/-- 'laws.FnExactChecksum', WHERE WHAT IT READS IS OF BULK AT MOST 1048576: true; the input reads as it did. -/
def fnExactChecksumUptoRow : OpenClaim := { program := "ytldbeelhmplmcaa", sum := "6d1b3dcd0b840441b4ace65385445b1c019fa7d3b300220947bfe795134b6ba3", func := "loop.example/g00933/laws.FnExactChecksum", spec := "fnExactChecksum", apart := false, narrowed := true }
def FnExactChecksumUptoSaid : Prop := fnExactChecksumUptoRow.holds Try.pinned (OpenSpec.upto fnExactChecksumSpec)

/-- 'laws.FnExactRoundedDiv', WHERE WHAT IT READS IS OF BULK AT MOST 1048576: true; the input reads as it did. -/
def fnExactRoundedDivUptoRow : OpenClaim := { program := "ytldbeelhmplmcaa", sum := "6d1b3dcd0b840441b4ace65385445b1c019fa7d3b300220947bfe795134b6ba3", func := "loop.example/g00933/laws.FnExactRoundedDiv", spec := "fnExactRoundedDiv", recurses := true, apart := false, narrowed := true }
def FnExactRoundedDivUptoSaid : Prop := fnExactRoundedDivUptoRow.holds Try.pinned (OpenSpec.upto fnExactRoundedDivSpec)

/-- 'laws.FnExactIsTool', WHERE WHAT IT READS IS OF BULK AT MOST 1048576: true; the input reads as it did. -/
def fnExactIsToolUptoRow : OpenClaim := { program := "ytldbeelhmplmcaa", sum := "6d1b3dcd0b840441b4ace65385445b1c019fa7d3b300220947bfe795134b6ba3", func := "loop.example/g00933/laws.FnExactIsTool", spec := "fnExactIsTool", apart := false, narrowed := true }
def FnExactIsToolUptoSaid : Prop := fnExactIsToolUptoRow.holds Try.pinned (OpenSpec.upto fnExactIsToolSpec)

/-- 'laws.FnExactTurnBetween', WHERE WHAT IT READS IS OF BULK AT MOST 1048576: true; the input reads as it did. -/
def fnExactTurnBetweenUptoRow : OpenClaim := { program := "ytldbeelhmplmcaa", sum := "6d1b3dcd0b840441b4ace65385445b1c019fa7d3b300220947bfe795134b6ba3", func := "loop.example/g00933/laws.FnExactTurnBetween", spec := "fnExactTurnBetween", apart := false, narrowed := true }
def FnExactTurnBetweenUptoSaid : Prop := fnExactTurnBetweenUptoRow.holds Try.pinned (OpenSpec.upto fnExactTurnBetweenSpec)

/-- 'laws.FnExactLengthOf', WHERE WHAT IT READS IS OF BULK AT MOST 1048576: true; the input reads as it did. -/
def fnExactLengthOfUptoRow : OpenClaim := { program := "ytldbeelhmplmcaa", sum := "6d1b3dcd0b840441b4ace65385445b1c019fa7d3b300220947bfe795134b6ba3", func := "loop.example/g00933/laws.FnExactLengthOf", spec := "fnExactLengthOf", apart := false, narrowed := true }
def FnExactLengthOfUptoSaid : Prop := fnExactLengthOfUptoRow.holds Try.pinned (OpenSpec.upto fnExactLengthOfSpec)

/-- 'laws.FnExactAreTools', WHERE WHAT IT READS IS OF BULK AT MOST 1048576: true; the input reads as it did. -/
def fnExactAreToolsUptoRow : OpenClaim := { program := "ytldbeelhmplmcaa", sum := "6d1b3dcd0b840441b4ace65385445b1c019fa7d3b300220947bfe795134b6ba3", func := "loop.example/g00933/laws.FnExactAreTools", spec := "fnExactAreTools", apart := false, narrowed := true }
def FnExactAreToolsUptoSaid : Prop := fnExactAreToolsUptoRow.holds Try.pinned (OpenSpec.upto fnExactAreToolsSpec)

/-- 'laws.FnExactCorrectReading', WHERE WHAT IT READS IS OF BULK AT MOST 1048576: true; the input reads as it did. -/
def fnExactCorrectReadingUptoRow : OpenClaim := { program := "ytldbeelhmplmcaa", sum := "6d1b3dcd0b840441b4ace65385445b1c019fa7d3b300220947bfe795134b6ba3", func := "loop.example/g00933/laws.FnExactCorrectReading", spec := "fnExactCorrectReading", recurses := true, apart := false, narrowed := true }
def FnExactCorrectReadingUptoSaid : Prop := fnExactCorrectReadingUptoRow.holds Try.pinned (OpenSpec.upto fnExactCorrectReadingSpec)

/-- 'laws.FnExactReadBack', WHERE WHAT IT READS IS OF BULK AT MOST 1048576: true; the input reads as it did. -/
def fnExactReadBackUptoRow : OpenClaim := { program := "ytldbeelhmplmcaa", sum := "6d1b3dcd0b840441b4ace65385445b1c019fa7d3b300220947bfe795134b6ba3", func := "loop.example/g00933/laws.FnExactReadBack", spec := "fnExactReadBack", recurses := true, apart := false, narrowed := true }
def FnExactReadBackUptoSaid : Prop := fnExactReadBackUptoRow.holds Try.pinned (OpenSpec.upto fnExactReadBackSpec)

end Rows
end Go.Proofs.Ytldbeelhmplmcaa
