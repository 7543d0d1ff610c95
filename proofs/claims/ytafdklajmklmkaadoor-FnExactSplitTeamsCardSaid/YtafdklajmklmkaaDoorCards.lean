/-
  DERIVED. GIVEN WITH THE SEED: THE CARDS: each row of YtafdklajmklmkaaDoorRows.lean that lists a variable, with what it lists TIED to the program's text (the seventh form; the later family's looks); each row that meets fmt, with fmt's text TOLD by the authors' own Lean function (tested against real Go, not proved from fmt's source: count such statements apart). THE CARD IS WHAT COUNTS. Prove the row's statement (the work); the ties are given (YtafdklajmklmkaaDoorTie.lean); close each card by the builder's one call (the guide's Derived/Test/ToyasCard.lean, 'card_holds'). Laid BY PROGRAM, IN A SANDBOX (cutbox-door.mjs). By AI agents, Wed Nov 11 2026. No macro, syntax, notation, axiom, sorry.
-/
import Derived.Test.YtafdklajmklmkaaDoorRows
import GoSem.ClaimSeven
namespace Go.Proofs.YtafdklajmklmkaaDoor
namespace Rows

/-- THE TIED CARD OF 'laws.FnExactArePeople'. -/
def fnExactArePeopleCard : Claim7 := { stood := { row := fnExactArePeopleRow, standIns := [], harness := (true, "06559580c0ffe0d50e443cf7fc19c6d324154d801dc0c16b67bc8a1c1ae264d9"), looks := false }, kinds := [], alts := [], laidByText := true, laidKinds := [.data, .pinned], laidTests := true, laidLooks := .later }
def FnExactArePeopleCardSaid : Prop := Claim7.holds Tryd.pinned (.plain (OpenSpec.ofChange fnExactArePeopleSpec)) fnExactArePeopleCard

/-- THE TIED CARD OF 'laws.FnExactWithSkills'. -/
def fnExactWithSkillsCard : Claim7 := { stood := { row := fnExactWithSkillsRow, standIns := [], harness := (true, "06559580c0ffe0d50e443cf7fc19c6d324154d801dc0c16b67bc8a1c1ae264d9"), looks := false }, kinds := [], alts := [], laidByText := true, laidKinds := [.data, .pinned], laidTests := true, laidLooks := .later }
def FnExactWithSkillsCardSaid : Prop := Claim7.holds Tryd.pinned (.plain (OpenSpec.ofChange fnExactWithSkillsSpec)) fnExactWithSkillsCard

/-- THE TIED CARD OF 'laws.FnExactIsTeam'. -/
def fnExactIsTeamCard : Claim7 := { stood := { row := fnExactIsTeamRow, standIns := [], harness := (true, "06559580c0ffe0d50e443cf7fc19c6d324154d801dc0c16b67bc8a1c1ae264d9"), looks := false }, kinds := [], alts := [], laidByText := true, laidKinds := [.data, .pinned], laidTests := true, laidLooks := .later }
def FnExactIsTeamCardSaid : Prop := Claim7.holds Tryd.pinned (.plain (OpenSpec.ofChange fnExactIsTeamSpec)) fnExactIsTeamCard

/-- THE TIED CARD OF 'laws.FnExactMissingSkills'. -/
def fnExactMissingSkillsCard : Claim7 := { stood := { row := fnExactMissingSkillsRow, standIns := [], harness := (true, "06559580c0ffe0d50e443cf7fc19c6d324154d801dc0c16b67bc8a1c1ae264d9"), looks := false }, kinds := [], alts := [], laidByText := true, laidKinds := [.data, .pinned], laidTests := true, laidLooks := .later }
def FnExactMissingSkillsCardSaid : Prop := Claim7.holds Tryd.pinned (.plain (OpenSpec.ofChange fnExactMissingSkillsSpec)) fnExactMissingSkillsCard

/-- THE TIED CARD OF 'laws.FnExactSkillsOf'. -/
def fnExactSkillsOfCard : Claim7 := { stood := { row := fnExactSkillsOfRow, standIns := [], harness := (true, "06559580c0ffe0d50e443cf7fc19c6d324154d801dc0c16b67bc8a1c1ae264d9"), looks := false }, kinds := [], alts := [], laidByText := true, laidKinds := [.data, .pinned], laidTests := true, laidLooks := .later }
def FnExactSkillsOfCardSaid : Prop := Claim7.holds Tryd.pinned (.plain (OpenSpec.ofChange fnExactSkillsOfSpec)) fnExactSkillsOfCard

/-- THE TIED CARD OF 'laws.FnExactGoOnTrip'. -/
def fnExactGoOnTripCard : Claim7 := { stood := { row := fnExactGoOnTripRow, standIns := [], harness := (true, "06559580c0ffe0d50e443cf7fc19c6d324154d801dc0c16b67bc8a1c1ae264d9"), looks := false }, kinds := [], alts := [], laidByText := true, laidKinds := [.data, .pinned], laidTests := true, laidLooks := .later }
def FnExactGoOnTripCardSaid : Prop := Claim7.holds Tryd.pinned (.plain (OpenSpec.ofChange fnExactGoOnTripSpec)) fnExactGoOnTripCard

/-- THE TIED CARD OF 'laws.FnExactCountTeams'. -/
def fnExactCountTeamsCard : Claim7 := { stood := { row := fnExactCountTeamsRow, standIns := [], harness := (true, "06559580c0ffe0d50e443cf7fc19c6d324154d801dc0c16b67bc8a1c1ae264d9"), looks := false }, kinds := [], alts := [], laidByText := true, laidKinds := [.data, .pinned], laidTests := true, laidLooks := .later }
def FnExactCountTeamsCardSaid : Prop := Claim7.holds Tryd.pinned (.plain (OpenSpec.ofChange fnExactCountTeamsSpec)) fnExactCountTeamsCard

/-- THE TIED CARD OF 'laws.FnExactSmallestTeam'. -/
def fnExactSmallestTeamCard : Claim7 := { stood := { row := fnExactSmallestTeamRow, standIns := [], harness := (true, "06559580c0ffe0d50e443cf7fc19c6d324154d801dc0c16b67bc8a1c1ae264d9"), looks := false }, kinds := [], alts := [], laidByText := true, laidKinds := [.data, .pinned], laidTests := true, laidLooks := .later }
def FnExactSmallestTeamCardSaid : Prop := Claim7.holds Tryd.pinned (.plain (OpenSpec.ofChange fnExactSmallestTeamSpec)) fnExactSmallestTeamCard

/-- THE TIED CARD OF 'laws.FnExactSplitTeams'. -/
def fnExactSplitTeamsCard : Claim7 := { stood := { row := fnExactSplitTeamsRow, standIns := [], harness := (true, "06559580c0ffe0d50e443cf7fc19c6d324154d801dc0c16b67bc8a1c1ae264d9"), looks := false }, kinds := [], alts := [], laidByText := true, laidKinds := [.data, .pinned], laidTests := true, laidLooks := .later }
def FnExactSplitTeamsCardSaid : Prop := Claim7.holds Tryd.pinned (.plain (OpenSpec.ofChange fnExactSplitTeamsSpec)) fnExactSplitTeamsCard

/-- THE SECOND FORM's CARD OF 'laws.FnExactArePeople'. -/
def fnExactArePeopleUptoCard : Claim7 := { stood := { row := fnExactArePeopleUptoRow, standIns := [], harness := (true, "06559580c0ffe0d50e443cf7fc19c6d324154d801dc0c16b67bc8a1c1ae264d9"), looks := false }, kinds := [], alts := [], laidByText := true, laidKinds := [.data, .pinned], laidTests := true, laidLooks := .later }
def FnExactArePeopleUptoCardSaid : Prop := Claim7.holds Tryd.pinned (.plain (OpenSpec.upto fnExactArePeopleSpec)) fnExactArePeopleUptoCard

/-- THE SECOND FORM's CARD OF 'laws.FnExactWithSkills'. -/
def fnExactWithSkillsUptoCard : Claim7 := { stood := { row := fnExactWithSkillsUptoRow, standIns := [], harness := (true, "06559580c0ffe0d50e443cf7fc19c6d324154d801dc0c16b67bc8a1c1ae264d9"), looks := false }, kinds := [], alts := [], laidByText := true, laidKinds := [.data, .pinned], laidTests := true, laidLooks := .later }
def FnExactWithSkillsUptoCardSaid : Prop := Claim7.holds Tryd.pinned (.plain (OpenSpec.upto fnExactWithSkillsSpec)) fnExactWithSkillsUptoCard

/-- THE SECOND FORM's CARD OF 'laws.FnExactIsTeam'. -/
def fnExactIsTeamUptoCard : Claim7 := { stood := { row := fnExactIsTeamUptoRow, standIns := [], harness := (true, "06559580c0ffe0d50e443cf7fc19c6d324154d801dc0c16b67bc8a1c1ae264d9"), looks := false }, kinds := [], alts := [], laidByText := true, laidKinds := [.data, .pinned], laidTests := true, laidLooks := .later }
def FnExactIsTeamUptoCardSaid : Prop := Claim7.holds Tryd.pinned (.plain (OpenSpec.upto fnExactIsTeamSpec)) fnExactIsTeamUptoCard

/-- THE SECOND FORM's CARD OF 'laws.FnExactMissingSkills'. -/
def fnExactMissingSkillsUptoCard : Claim7 := { stood := { row := fnExactMissingSkillsUptoRow, standIns := [], harness := (true, "06559580c0ffe0d50e443cf7fc19c6d324154d801dc0c16b67bc8a1c1ae264d9"), looks := false }, kinds := [], alts := [], laidByText := true, laidKinds := [.data, .pinned], laidTests := true, laidLooks := .later }
def FnExactMissingSkillsUptoCardSaid : Prop := Claim7.holds Tryd.pinned (.plain (OpenSpec.upto fnExactMissingSkillsSpec)) fnExactMissingSkillsUptoCard

/-- THE SECOND FORM's CARD OF 'laws.FnExactSkillsOf'. -/
def fnExactSkillsOfUptoCard : Claim7 := { stood := { row := fnExactSkillsOfUptoRow, standIns := [], harness := (true, "06559580c0ffe0d50e443cf7fc19c6d324154d801dc0c16b67bc8a1c1ae264d9"), looks := false }, kinds := [], alts := [], laidByText := true, laidKinds := [.data, .pinned], laidTests := true, laidLooks := .later }
def FnExactSkillsOfUptoCardSaid : Prop := Claim7.holds Tryd.pinned (.plain (OpenSpec.upto fnExactSkillsOfSpec)) fnExactSkillsOfUptoCard

/-- THE SECOND FORM's CARD OF 'laws.FnExactGoOnTrip'. -/
def fnExactGoOnTripUptoCard : Claim7 := { stood := { row := fnExactGoOnTripUptoRow, standIns := [], harness := (true, "06559580c0ffe0d50e443cf7fc19c6d324154d801dc0c16b67bc8a1c1ae264d9"), looks := false }, kinds := [], alts := [], laidByText := true, laidKinds := [.data, .pinned], laidTests := true, laidLooks := .later }
def FnExactGoOnTripUptoCardSaid : Prop := Claim7.holds Tryd.pinned (.plain (OpenSpec.upto fnExactGoOnTripSpec)) fnExactGoOnTripUptoCard

/-- THE SECOND FORM's CARD OF 'laws.FnExactCountTeams'. -/
def fnExactCountTeamsUptoCard : Claim7 := { stood := { row := fnExactCountTeamsUptoRow, standIns := [], harness := (true, "06559580c0ffe0d50e443cf7fc19c6d324154d801dc0c16b67bc8a1c1ae264d9"), looks := false }, kinds := [], alts := [], laidByText := true, laidKinds := [.data, .pinned], laidTests := true, laidLooks := .later }
def FnExactCountTeamsUptoCardSaid : Prop := Claim7.holds Tryd.pinned (.plain (OpenSpec.upto fnExactCountTeamsSpec)) fnExactCountTeamsUptoCard

/-- THE SECOND FORM's CARD OF 'laws.FnExactSmallestTeam'. -/
def fnExactSmallestTeamUptoCard : Claim7 := { stood := { row := fnExactSmallestTeamUptoRow, standIns := [], harness := (true, "06559580c0ffe0d50e443cf7fc19c6d324154d801dc0c16b67bc8a1c1ae264d9"), looks := false }, kinds := [], alts := [], laidByText := true, laidKinds := [.data, .pinned], laidTests := true, laidLooks := .later }
def FnExactSmallestTeamUptoCardSaid : Prop := Claim7.holds Tryd.pinned (.plain (OpenSpec.upto fnExactSmallestTeamSpec)) fnExactSmallestTeamUptoCard

/-- THE SECOND FORM's CARD OF 'laws.FnExactSplitTeams'. -/
def fnExactSplitTeamsUptoCard : Claim7 := { stood := { row := fnExactSplitTeamsUptoRow, standIns := [], harness := (true, "06559580c0ffe0d50e443cf7fc19c6d324154d801dc0c16b67bc8a1c1ae264d9"), looks := false }, kinds := [], alts := [], laidByText := true, laidKinds := [.data, .pinned], laidTests := true, laidLooks := .later }
def FnExactSplitTeamsUptoCardSaid : Prop := Claim7.holds Tryd.pinned (.plain (OpenSpec.upto fnExactSplitTeamsSpec)) fnExactSplitTeamsUptoCard
end Rows
end Go.Proofs.YtafdklajmklmkaaDoor
