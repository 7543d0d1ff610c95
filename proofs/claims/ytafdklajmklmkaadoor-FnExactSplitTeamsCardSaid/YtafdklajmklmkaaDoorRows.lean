/-
  NARROWER THAN 'FOR EVERY INPUT', by the rows' own cells (each row's printed sentence says how): FnExactArePeople: laid · FnExactWithSkills: laid · FnExactIsTeam: laid · FnExactMissingSkills: laid · FnExactSkillsOf: laid · FnExactGoOnTrip: laid · FnExactCountTeams: laid · FnExactSmallestTeam: laid · FnExactSplitTeams: laid.
  DERIVED. THE GIVEN ROWS OF THIS SEAT. 9 by the template 'for every input the law returns true; each argument reads behind the call as it read before'; 0 by the template 'total and deterministic' (their statements: YtafdklajmklmkaaDoorTotals.lean).
  GIVEN WITH THE SEED: the statements are not yours to turn. If you find one false, say at which input.
  Laid BY PROGRAM, IN A SANDBOX (cutbox-rows.mjs): the forced cells as the released guide's own fill.sh prints them over the translation 4b7f4f78f65d50c4… (all of the seat's roots in one cut). By AI agents, Wed Nov 11 2026. No macro, syntax, notation, axiom, sorry.
-/
import Derived.Test.YtafdklajmklmkaaDoorChecked
import GoSem.PinnedTables
import GoSem.Claim
import GoSem.ClaimJoined
import GoSem.ClaimMapViews
import Derived.JoinedTies
import Derived.KernelRfl
namespace Go.Proofs.YtafdklajmklmkaaDoor
/- THE CELL 'sum', in the pinned program and in every row, IS THE sha256 OF THE DUMP (.gsa) THAT YtafdklajmklmkaaDoorProg.lean LOADS. Nothing in Lean hashes anything: it is a label: what it is worth is what the hold of that sum in a sandbox is worth. -/
noncomputable def Tryd.pinned : Pinned := { name := "ytafdklajmklmkaadoor", sum := "4b7f4f78f65d50c47bdbcb45764043886bbeb8b63eebaff87631e92ffd4e3be6", checked := Tryd.checked }
namespace Rows
def none {H : Type} : Left H := { results := [], args := [] }

/- WHAT THE LISTED PACKAGE-LEVEL VARIABLES READ AS WHEN THE CALL BEGINS. Each datum BY PROGRAM (the guide's laid-datum.mjs) off the statement by which the dump's own 'gosem.cut.vars' lays the variable. In a bare row this is a premise. The card (YtafdklajmklmkaaDoorCards.lean) ties it to the program's text. -/
def laid_unicode_utf8_acceptRanges {H : Type} : DataW H := .agg [.agg [.lit (.int .u8 128), .lit (.int .u8 191)], .agg [.lit (.int .u8 160), .lit (.int .u8 191)], .agg [.lit (.int .u8 128), .lit (.int .u8 159)], .agg [.lit (.int .u8 144), .lit (.int .u8 191)], .agg [.lit (.int .u8 128), .lit (.int .u8 143)], .agg [.lit (.int .u8 0), .lit (.int .u8 0)], .agg [.lit (.int .u8 0), .lit (.int .u8 0)], .agg [.lit (.int .u8 0), .lit (.int .u8 0)], .agg [.lit (.int .u8 0), .lit (.int .u8 0)], .agg [.lit (.int .u8 0), .lit (.int .u8 0)], .agg [.lit (.int .u8 0), .lit (.int .u8 0)], .agg [.lit (.int .u8 0), .lit (.int .u8 0)], .agg [.lit (.int .u8 0), .lit (.int .u8 0)], .agg [.lit (.int .u8 0), .lit (.int .u8 0)], .agg [.lit (.int .u8 0), .lit (.int .u8 0)], .agg [.lit (.int .u8 0), .lit (.int .u8 0)]]
/-- One of Go's own tables, pinned by name: the form's constant. -/
def laid_unicode_utf8_first : DataW Unit := Go.Pinned.utf8First

/-- 'laws.FnExactArePeople': WHATEVER THE INPUT: true; the input reads as it did. -/
def fnExactArePeopleSpec : ChangeSpec := { name := "fnExactArePeople", fn := fun _ => fun
  | [d] => { results := [.lit (.bool true)], args := [d] }
  | _ => none }
def fnExactArePeopleRow : OpenClaim := { program := "ytafdklajmklmkaadoor", sum := "4b7f4f78f65d50c47bdbcb45764043886bbeb8b63eebaff87631e92ffd4e3be6", func := "loop.example/g00933/laws.FnExactArePeople", spec := "fnExactArePeople", inPlace := ["internal/bytealg.IndexByteString", "internal/bytealg.IndexString"], named := ["unicode/utf8.first", "unicode/utf8.acceptRanges", "internal/bytealg.MaxLen"], apart := false, laid := [("unicode/utf8.acceptRanges", laid_unicode_utf8_acceptRanges), ("unicode/utf8.first", laid_unicode_utf8_first)] }
def FnExactArePeopleSaid : Prop := fnExactArePeopleRow.holds Tryd.pinned (OpenSpec.ofChange fnExactArePeopleSpec)

/-- ITS FALSE NEIGHBOUR: 'it returns false'. Refute it at one input. -/
def fnExactArePeopleWrong : ChangeSpec := { name := "fnExactArePeople", fn := fun _ => fun
  | [d] => { results := [.lit (.bool false)], args := [d] }
  | _ => none }
def FnExactArePeopleWrongFalsely : Prop := fnExactArePeopleRow.holds Tryd.pinned (OpenSpec.ofChange fnExactArePeopleWrong)

/-- 'laws.FnExactWithSkills': WHATEVER THE INPUT: true; the input reads as it did. -/
def fnExactWithSkillsSpec : ChangeSpec := { name := "fnExactWithSkills", fn := fun _ => fun
  | [d1, d2] => { results := [.lit (.bool true)], args := [d1, d2] }
  | _ => none }
def fnExactWithSkillsRow : OpenClaim := { program := "ytafdklajmklmkaadoor", sum := "4b7f4f78f65d50c47bdbcb45764043886bbeb8b63eebaff87631e92ffd4e3be6", func := "loop.example/g00933/laws.FnExactWithSkills", spec := "fnExactWithSkills", inPlace := ["internal/bytealg.IndexByteString", "internal/bytealg.IndexString"], named := ["unicode/utf8.first", "unicode/utf8.acceptRanges", "internal/bytealg.MaxLen"], apart := false, laid := [("unicode/utf8.acceptRanges", laid_unicode_utf8_acceptRanges), ("unicode/utf8.first", laid_unicode_utf8_first)] }
def FnExactWithSkillsSaid : Prop := fnExactWithSkillsRow.holds Tryd.pinned (OpenSpec.ofChange fnExactWithSkillsSpec)

/-- ITS FALSE NEIGHBOUR: 'it returns false'. Refute it at one input. -/
def fnExactWithSkillsWrong : ChangeSpec := { name := "fnExactWithSkills", fn := fun _ => fun
  | [d1, d2] => { results := [.lit (.bool false)], args := [d1, d2] }
  | _ => none }
def FnExactWithSkillsWrongFalsely : Prop := fnExactWithSkillsRow.holds Tryd.pinned (OpenSpec.ofChange fnExactWithSkillsWrong)

/-- 'laws.FnExactIsTeam': WHATEVER THE INPUT: true; the input reads as it did. -/
def fnExactIsTeamSpec : ChangeSpec := { name := "fnExactIsTeam", fn := fun _ => fun
  | [d1, d2] => { results := [.lit (.bool true)], args := [d1, d2] }
  | _ => none }
def fnExactIsTeamRow : OpenClaim := { program := "ytafdklajmklmkaadoor", sum := "4b7f4f78f65d50c47bdbcb45764043886bbeb8b63eebaff87631e92ffd4e3be6", func := "loop.example/g00933/laws.FnExactIsTeam", spec := "fnExactIsTeam", inPlace := ["internal/bytealg.IndexByteString", "internal/bytealg.IndexString"], unfollowed := true, recurses := true, named := ["unicode/utf8.first", "unicode/utf8.acceptRanges", "internal/bytealg.MaxLen"], apart := false, laid := [("unicode/utf8.acceptRanges", laid_unicode_utf8_acceptRanges), ("unicode/utf8.first", laid_unicode_utf8_first)] }
def FnExactIsTeamSaid : Prop := fnExactIsTeamRow.holds Tryd.pinned (OpenSpec.ofChange fnExactIsTeamSpec)

/-- ITS FALSE NEIGHBOUR: 'it returns false'. Refute it at one input. -/
def fnExactIsTeamWrong : ChangeSpec := { name := "fnExactIsTeam", fn := fun _ => fun
  | [d1, d2] => { results := [.lit (.bool false)], args := [d1, d2] }
  | _ => none }
def FnExactIsTeamWrongFalsely : Prop := fnExactIsTeamRow.holds Tryd.pinned (OpenSpec.ofChange fnExactIsTeamWrong)

/-- 'laws.FnExactMissingSkills': WHATEVER THE INPUT: true; the input reads as it did. -/
def fnExactMissingSkillsSpec : ChangeSpec := { name := "fnExactMissingSkills", fn := fun _ => fun
  | [d1, d2, d3] => { results := [.lit (.bool true)], args := [d1, d2, d3] }
  | _ => none }
def fnExactMissingSkillsRow : OpenClaim := { program := "ytafdklajmklmkaadoor", sum := "4b7f4f78f65d50c47bdbcb45764043886bbeb8b63eebaff87631e92ffd4e3be6", func := "loop.example/g00933/laws.FnExactMissingSkills", spec := "fnExactMissingSkills", inPlace := ["internal/bytealg.IndexByteString", "internal/bytealg.IndexString"], unfollowed := true, recurses := true, named := ["unicode/utf8.first", "unicode/utf8.acceptRanges", "internal/bytealg.MaxLen"], apart := false, laid := [("unicode/utf8.acceptRanges", laid_unicode_utf8_acceptRanges), ("unicode/utf8.first", laid_unicode_utf8_first)] }
def FnExactMissingSkillsSaid : Prop := fnExactMissingSkillsRow.holds Tryd.pinned (OpenSpec.ofChange fnExactMissingSkillsSpec)

/-- ITS FALSE NEIGHBOUR: 'it returns false'. Refute it at one input. -/
def fnExactMissingSkillsWrong : ChangeSpec := { name := "fnExactMissingSkills", fn := fun _ => fun
  | [d1, d2, d3] => { results := [.lit (.bool false)], args := [d1, d2, d3] }
  | _ => none }
def FnExactMissingSkillsWrongFalsely : Prop := fnExactMissingSkillsRow.holds Tryd.pinned (OpenSpec.ofChange fnExactMissingSkillsWrong)

/-- 'laws.FnExactSkillsOf': WHATEVER THE INPUT: true; the input reads as it did. -/
def fnExactSkillsOfSpec : ChangeSpec := { name := "fnExactSkillsOf", fn := fun _ => fun
  | [d1, d2] => { results := [.lit (.bool true)], args := [d1, d2] }
  | _ => none }
def fnExactSkillsOfRow : OpenClaim := { program := "ytafdklajmklmkaadoor", sum := "4b7f4f78f65d50c47bdbcb45764043886bbeb8b63eebaff87631e92ffd4e3be6", func := "loop.example/g00933/laws.FnExactSkillsOf", spec := "fnExactSkillsOf", inPlace := ["internal/bytealg.IndexByteString", "internal/bytealg.IndexString"], unfollowed := true, recurses := true, named := ["unicode/utf8.first", "unicode/utf8.acceptRanges", "internal/bytealg.MaxLen"], apart := false, laid := [("unicode/utf8.acceptRanges", laid_unicode_utf8_acceptRanges), ("unicode/utf8.first", laid_unicode_utf8_first)] }
def FnExactSkillsOfSaid : Prop := fnExactSkillsOfRow.holds Tryd.pinned (OpenSpec.ofChange fnExactSkillsOfSpec)

/-- ITS FALSE NEIGHBOUR: 'it returns false'. Refute it at one input. -/
def fnExactSkillsOfWrong : ChangeSpec := { name := "fnExactSkillsOf", fn := fun _ => fun
  | [d1, d2] => { results := [.lit (.bool false)], args := [d1, d2] }
  | _ => none }
def FnExactSkillsOfWrongFalsely : Prop := fnExactSkillsOfRow.holds Tryd.pinned (OpenSpec.ofChange fnExactSkillsOfWrong)

/-- 'laws.FnExactGoOnTrip': WHATEVER THE INPUT: true; the input reads as it did. -/
def fnExactGoOnTripSpec : ChangeSpec := { name := "fnExactGoOnTrip", fn := fun _ => fun
  | [d1, d2] => { results := [.lit (.bool true)], args := [d1, d2] }
  | _ => none }
def fnExactGoOnTripRow : OpenClaim := { program := "ytafdklajmklmkaadoor", sum := "4b7f4f78f65d50c47bdbcb45764043886bbeb8b63eebaff87631e92ffd4e3be6", func := "loop.example/g00933/laws.FnExactGoOnTrip", spec := "fnExactGoOnTrip", inPlace := ["internal/bytealg.IndexByteString", "internal/bytealg.IndexString"], unfollowed := true, recurses := true, named := ["unicode/utf8.first", "unicode/utf8.acceptRanges", "internal/bytealg.MaxLen"], apart := false, laid := [("unicode/utf8.acceptRanges", laid_unicode_utf8_acceptRanges), ("unicode/utf8.first", laid_unicode_utf8_first)] }
def FnExactGoOnTripSaid : Prop := fnExactGoOnTripRow.holds Tryd.pinned (OpenSpec.ofChange fnExactGoOnTripSpec)

/-- ITS FALSE NEIGHBOUR: 'it returns false'. Refute it at one input. -/
def fnExactGoOnTripWrong : ChangeSpec := { name := "fnExactGoOnTrip", fn := fun _ => fun
  | [d1, d2] => { results := [.lit (.bool false)], args := [d1, d2] }
  | _ => none }
def FnExactGoOnTripWrongFalsely : Prop := fnExactGoOnTripRow.holds Tryd.pinned (OpenSpec.ofChange fnExactGoOnTripWrong)

/-- 'laws.FnExactCountTeams': WHATEVER THE INPUT: true; the input reads as it did. -/
def fnExactCountTeamsSpec : ChangeSpec := { name := "fnExactCountTeams", fn := fun _ => fun
  | [d] => { results := [.lit (.bool true)], args := [d] }
  | _ => none }
def fnExactCountTeamsRow : OpenClaim := { program := "ytafdklajmklmkaadoor", sum := "4b7f4f78f65d50c47bdbcb45764043886bbeb8b63eebaff87631e92ffd4e3be6", func := "loop.example/g00933/laws.FnExactCountTeams", spec := "fnExactCountTeams", inPlace := ["internal/bytealg.IndexByteString", "internal/bytealg.IndexString"], unfollowed := true, recurses := true, named := ["unicode/utf8.first", "unicode/utf8.acceptRanges", "internal/bytealg.MaxLen"], apart := false, laid := [("unicode/utf8.acceptRanges", laid_unicode_utf8_acceptRanges), ("unicode/utf8.first", laid_unicode_utf8_first)] }
def FnExactCountTeamsSaid : Prop := fnExactCountTeamsRow.holds Tryd.pinned (OpenSpec.ofChange fnExactCountTeamsSpec)

/-- ITS FALSE NEIGHBOUR: 'it returns false'. Refute it at one input. -/
def fnExactCountTeamsWrong : ChangeSpec := { name := "fnExactCountTeams", fn := fun _ => fun
  | [d] => { results := [.lit (.bool false)], args := [d] }
  | _ => none }
def FnExactCountTeamsWrongFalsely : Prop := fnExactCountTeamsRow.holds Tryd.pinned (OpenSpec.ofChange fnExactCountTeamsWrong)

/-- 'laws.FnExactSmallestTeam': WHATEVER THE INPUT: true; the input reads as it did. -/
def fnExactSmallestTeamSpec : ChangeSpec := { name := "fnExactSmallestTeam", fn := fun _ => fun
  | [d1, d2] => { results := [.lit (.bool true)], args := [d1, d2] }
  | _ => none }
def fnExactSmallestTeamRow : OpenClaim := { program := "ytafdklajmklmkaadoor", sum := "4b7f4f78f65d50c47bdbcb45764043886bbeb8b63eebaff87631e92ffd4e3be6", func := "loop.example/g00933/laws.FnExactSmallestTeam", spec := "fnExactSmallestTeam", inPlace := ["internal/bytealg.IndexByteString", "internal/bytealg.IndexString"], unfollowed := true, recurses := true, named := ["unicode/utf8.first", "unicode/utf8.acceptRanges", "internal/bytealg.MaxLen"], apart := false, laid := [("unicode/utf8.acceptRanges", laid_unicode_utf8_acceptRanges), ("unicode/utf8.first", laid_unicode_utf8_first)] }
def FnExactSmallestTeamSaid : Prop := fnExactSmallestTeamRow.holds Tryd.pinned (OpenSpec.ofChange fnExactSmallestTeamSpec)

/-- ITS FALSE NEIGHBOUR: 'it returns false'. Refute it at one input. -/
def fnExactSmallestTeamWrong : ChangeSpec := { name := "fnExactSmallestTeam", fn := fun _ => fun
  | [d1, d2] => { results := [.lit (.bool false)], args := [d1, d2] }
  | _ => none }
def FnExactSmallestTeamWrongFalsely : Prop := fnExactSmallestTeamRow.holds Tryd.pinned (OpenSpec.ofChange fnExactSmallestTeamWrong)

/-- 'laws.FnExactSplitTeams': WHATEVER THE INPUT: true; the input reads as it did. -/
def fnExactSplitTeamsSpec : ChangeSpec := { name := "fnExactSplitTeams", fn := fun _ => fun
  | [d] => { results := [.lit (.bool true)], args := [d] }
  | _ => none }
def fnExactSplitTeamsRow : OpenClaim := { program := "ytafdklajmklmkaadoor", sum := "4b7f4f78f65d50c47bdbcb45764043886bbeb8b63eebaff87631e92ffd4e3be6", func := "loop.example/g00933/laws.FnExactSplitTeams", spec := "fnExactSplitTeams", inPlace := ["internal/bytealg.IndexByteString", "internal/bytealg.IndexString"], unfollowed := true, recurses := true, named := ["unicode/utf8.first", "unicode/utf8.acceptRanges", "internal/bytealg.MaxLen"], apart := false, laid := [("unicode/utf8.acceptRanges", laid_unicode_utf8_acceptRanges), ("unicode/utf8.first", laid_unicode_utf8_first)] }
def FnExactSplitTeamsSaid : Prop := fnExactSplitTeamsRow.holds Tryd.pinned (OpenSpec.ofChange fnExactSplitTeamsSpec)

/-- ITS FALSE NEIGHBOUR: 'it returns false'. Refute it at one input. -/
def fnExactSplitTeamsWrong : ChangeSpec := { name := "fnExactSplitTeams", fn := fun _ => fun
  | [d] => { results := [.lit (.bool false)], args := [d] }
  | _ => none }
def FnExactSplitTeamsWrongFalsely : Prop := fnExactSplitTeamsRow.holds Tryd.pinned (OpenSpec.ofChange fnExactSplitTeamsWrong)

/- THE SECOND FORM. 'bulk': how many values and letters a reading holds, each counted each time it is reached (what is shared counts as often as it is met; a slice's spare places count too). A statement '..UptoSaid' is the law's where the arguments, and the package variables that the reading takes, are together of bulk at most 1048576: NARROWER than '..Said'. Prove '..Said' where nothing that the law and all that it calls make is longer than what came in: it says more and counts as full. Else prove '..UptoSaid'. A law counts once. -/
mutual
def uptoBulk {H : Type} : DataW H → Nat
  | .lit (.string bytes) => bytes.length + 1
  | .lit _ => 1
  | .nil => 1
  | .ptr d => uptoBulk d + 1
  | .slice elems spare => uptoBulkAll elems + uptoBulkAll spare + 1
  | .agg parts => uptoBulkAll parts + 1
  | .iface _ d => uptoBulk d + 1
  | .map entries => uptoBulkEntries entries + 1
  | .held _ => 1
def uptoBulkAll {H : Type} : List (DataW H) → Nat
  | [] => 0
  | d :: r => uptoBulk d + uptoBulkAll r
def uptoBulkEntries {H : Type} : List (Lit × DataW H) → Nat
  | [] => 0
  | x :: r => uptoBulkEntry x + uptoBulkEntries r
def uptoBulkEntry {H : Type} : Lit × DataW H → Nat
  | (.string bytes, d) => bytes.length + uptoBulk d + 1
  | (_, d) => uptoBulk d + 1
 end
def uptoSmall : (H : Type) → List (DataW H) → Bool := fun _ ds => decide (uptoBulkAll ds ≤ 1048576)
def OpenSpec.upto (s : _root_.Go.ChangeSpec) : _root_.Go.OpenSpec := { _root_.Go.OpenSpec.ofChange s with cond := some uptoSmall }

/-- 'laws.FnExactArePeople', WHERE WHAT IT READS IS OF BULK AT MOST 1048576: true; the input reads as it did. -/
def fnExactArePeopleUptoRow : OpenClaim := { program := "ytafdklajmklmkaadoor", sum := "4b7f4f78f65d50c47bdbcb45764043886bbeb8b63eebaff87631e92ffd4e3be6", func := "loop.example/g00933/laws.FnExactArePeople", spec := "fnExactArePeople", inPlace := ["internal/bytealg.IndexByteString", "internal/bytealg.IndexString"], named := ["unicode/utf8.first", "unicode/utf8.acceptRanges", "internal/bytealg.MaxLen"], apart := false, laid := [("unicode/utf8.acceptRanges", laid_unicode_utf8_acceptRanges), ("unicode/utf8.first", laid_unicode_utf8_first)], narrowed := true }
def FnExactArePeopleUptoSaid : Prop := fnExactArePeopleUptoRow.holds Tryd.pinned (OpenSpec.upto fnExactArePeopleSpec)

/-- 'laws.FnExactWithSkills', WHERE WHAT IT READS IS OF BULK AT MOST 1048576: true; the input reads as it did. -/
def fnExactWithSkillsUptoRow : OpenClaim := { program := "ytafdklajmklmkaadoor", sum := "4b7f4f78f65d50c47bdbcb45764043886bbeb8b63eebaff87631e92ffd4e3be6", func := "loop.example/g00933/laws.FnExactWithSkills", spec := "fnExactWithSkills", inPlace := ["internal/bytealg.IndexByteString", "internal/bytealg.IndexString"], named := ["unicode/utf8.first", "unicode/utf8.acceptRanges", "internal/bytealg.MaxLen"], apart := false, laid := [("unicode/utf8.acceptRanges", laid_unicode_utf8_acceptRanges), ("unicode/utf8.first", laid_unicode_utf8_first)], narrowed := true }
def FnExactWithSkillsUptoSaid : Prop := fnExactWithSkillsUptoRow.holds Tryd.pinned (OpenSpec.upto fnExactWithSkillsSpec)

/-- 'laws.FnExactIsTeam', WHERE WHAT IT READS IS OF BULK AT MOST 1048576: true; the input reads as it did. -/
def fnExactIsTeamUptoRow : OpenClaim := { program := "ytafdklajmklmkaadoor", sum := "4b7f4f78f65d50c47bdbcb45764043886bbeb8b63eebaff87631e92ffd4e3be6", func := "loop.example/g00933/laws.FnExactIsTeam", spec := "fnExactIsTeam", inPlace := ["internal/bytealg.IndexByteString", "internal/bytealg.IndexString"], unfollowed := true, recurses := true, named := ["unicode/utf8.first", "unicode/utf8.acceptRanges", "internal/bytealg.MaxLen"], apart := false, laid := [("unicode/utf8.acceptRanges", laid_unicode_utf8_acceptRanges), ("unicode/utf8.first", laid_unicode_utf8_first)], narrowed := true }
def FnExactIsTeamUptoSaid : Prop := fnExactIsTeamUptoRow.holds Tryd.pinned (OpenSpec.upto fnExactIsTeamSpec)

/-- 'laws.FnExactMissingSkills', WHERE WHAT IT READS IS OF BULK AT MOST 1048576: true; the input reads as it did. -/
def fnExactMissingSkillsUptoRow : OpenClaim := { program := "ytafdklajmklmkaadoor", sum := "4b7f4f78f65d50c47bdbcb45764043886bbeb8b63eebaff87631e92ffd4e3be6", func := "loop.example/g00933/laws.FnExactMissingSkills", spec := "fnExactMissingSkills", inPlace := ["internal/bytealg.IndexByteString", "internal/bytealg.IndexString"], unfollowed := true, recurses := true, named := ["unicode/utf8.first", "unicode/utf8.acceptRanges", "internal/bytealg.MaxLen"], apart := false, laid := [("unicode/utf8.acceptRanges", laid_unicode_utf8_acceptRanges), ("unicode/utf8.first", laid_unicode_utf8_first)], narrowed := true }
def FnExactMissingSkillsUptoSaid : Prop := fnExactMissingSkillsUptoRow.holds Tryd.pinned (OpenSpec.upto fnExactMissingSkillsSpec)

/-- 'laws.FnExactSkillsOf', WHERE WHAT IT READS IS OF BULK AT MOST 1048576: true; the input reads as it did. -/
def fnExactSkillsOfUptoRow : OpenClaim := { program := "ytafdklajmklmkaadoor", sum := "4b7f4f78f65d50c47bdbcb45764043886bbeb8b63eebaff87631e92ffd4e3be6", func := "loop.example/g00933/laws.FnExactSkillsOf", spec := "fnExactSkillsOf", inPlace := ["internal/bytealg.IndexByteString", "internal/bytealg.IndexString"], unfollowed := true, recurses := true, named := ["unicode/utf8.first", "unicode/utf8.acceptRanges", "internal/bytealg.MaxLen"], apart := false, laid := [("unicode/utf8.acceptRanges", laid_unicode_utf8_acceptRanges), ("unicode/utf8.first", laid_unicode_utf8_first)], narrowed := true }
def FnExactSkillsOfUptoSaid : Prop := fnExactSkillsOfUptoRow.holds Tryd.pinned (OpenSpec.upto fnExactSkillsOfSpec)

/-- 'laws.FnExactGoOnTrip', WHERE WHAT IT READS IS OF BULK AT MOST 1048576: true; the input reads as it did. -/
def fnExactGoOnTripUptoRow : OpenClaim := { program := "ytafdklajmklmkaadoor", sum := "4b7f4f78f65d50c47bdbcb45764043886bbeb8b63eebaff87631e92ffd4e3be6", func := "loop.example/g00933/laws.FnExactGoOnTrip", spec := "fnExactGoOnTrip", inPlace := ["internal/bytealg.IndexByteString", "internal/bytealg.IndexString"], unfollowed := true, recurses := true, named := ["unicode/utf8.first", "unicode/utf8.acceptRanges", "internal/bytealg.MaxLen"], apart := false, laid := [("unicode/utf8.acceptRanges", laid_unicode_utf8_acceptRanges), ("unicode/utf8.first", laid_unicode_utf8_first)], narrowed := true }
def FnExactGoOnTripUptoSaid : Prop := fnExactGoOnTripUptoRow.holds Tryd.pinned (OpenSpec.upto fnExactGoOnTripSpec)

/-- 'laws.FnExactCountTeams', WHERE WHAT IT READS IS OF BULK AT MOST 1048576: true; the input reads as it did. -/
def fnExactCountTeamsUptoRow : OpenClaim := { program := "ytafdklajmklmkaadoor", sum := "4b7f4f78f65d50c47bdbcb45764043886bbeb8b63eebaff87631e92ffd4e3be6", func := "loop.example/g00933/laws.FnExactCountTeams", spec := "fnExactCountTeams", inPlace := ["internal/bytealg.IndexByteString", "internal/bytealg.IndexString"], unfollowed := true, recurses := true, named := ["unicode/utf8.first", "unicode/utf8.acceptRanges", "internal/bytealg.MaxLen"], apart := false, laid := [("unicode/utf8.acceptRanges", laid_unicode_utf8_acceptRanges), ("unicode/utf8.first", laid_unicode_utf8_first)], narrowed := true }
def FnExactCountTeamsUptoSaid : Prop := fnExactCountTeamsUptoRow.holds Tryd.pinned (OpenSpec.upto fnExactCountTeamsSpec)

/-- 'laws.FnExactSmallestTeam', WHERE WHAT IT READS IS OF BULK AT MOST 1048576: true; the input reads as it did. -/
def fnExactSmallestTeamUptoRow : OpenClaim := { program := "ytafdklajmklmkaadoor", sum := "4b7f4f78f65d50c47bdbcb45764043886bbeb8b63eebaff87631e92ffd4e3be6", func := "loop.example/g00933/laws.FnExactSmallestTeam", spec := "fnExactSmallestTeam", inPlace := ["internal/bytealg.IndexByteString", "internal/bytealg.IndexString"], unfollowed := true, recurses := true, named := ["unicode/utf8.first", "unicode/utf8.acceptRanges", "internal/bytealg.MaxLen"], apart := false, laid := [("unicode/utf8.acceptRanges", laid_unicode_utf8_acceptRanges), ("unicode/utf8.first", laid_unicode_utf8_first)], narrowed := true }
def FnExactSmallestTeamUptoSaid : Prop := fnExactSmallestTeamUptoRow.holds Tryd.pinned (OpenSpec.upto fnExactSmallestTeamSpec)

/-- 'laws.FnExactSplitTeams', WHERE WHAT IT READS IS OF BULK AT MOST 1048576: true; the input reads as it did. -/
def fnExactSplitTeamsUptoRow : OpenClaim := { program := "ytafdklajmklmkaadoor", sum := "4b7f4f78f65d50c47bdbcb45764043886bbeb8b63eebaff87631e92ffd4e3be6", func := "loop.example/g00933/laws.FnExactSplitTeams", spec := "fnExactSplitTeams", inPlace := ["internal/bytealg.IndexByteString", "internal/bytealg.IndexString"], unfollowed := true, recurses := true, named := ["unicode/utf8.first", "unicode/utf8.acceptRanges", "internal/bytealg.MaxLen"], apart := false, laid := [("unicode/utf8.acceptRanges", laid_unicode_utf8_acceptRanges), ("unicode/utf8.first", laid_unicode_utf8_first)], narrowed := true }
def FnExactSplitTeamsUptoSaid : Prop := fnExactSplitTeamsUptoRow.holds Tryd.pinned (OpenSpec.upto fnExactSplitTeamsSpec)

end Rows
end Go.Proofs.YtafdklajmklmkaaDoor
