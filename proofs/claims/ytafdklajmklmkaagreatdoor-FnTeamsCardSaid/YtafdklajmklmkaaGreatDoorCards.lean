/-
  DERIVED. GIVEN WITH THE SEED: THE CARDS: each row of YtafdklajmklmkaaGreatDoorRows.lean that lists a variable, with what it lists TIED to the program's text (the seventh form; the later family's looks); each row that meets fmt, with fmt's text TOLD by the authors' own Lean function (tested against real Go, not proved from fmt's source: count such statements apart). THE CARD IS WHAT COUNTS. Prove the row's statement (the work); the ties are given (YtafdklajmklmkaaGreatDoorTie.lean); close each card by the builder's one call (the guide's Derived/Test/ToyasCard.lean, 'card_holds'). Laid BY PROGRAM, IN A SANDBOX (cutbox-door.mjs). By AI agents, Wed Nov 11 2026. No macro, syntax, notation, axiom, sorry.
-/
import Derived.Test.YtafdklajmklmkaaGreatDoorRows
import GoSem.ClaimSeven
namespace Go.Proofs.YtafdklajmklmkaaGreatDoor
namespace Rows

/-- THE TIED CARD OF 'laws.FnTeams'. -/
def fnTeamsCard : Claim7 := { stood := { row := fnTeamsRow, standIns := [], harness := (true, "d2c749c8828ed9c9b1ba103e6d127426e1b14f954d21a3a2ce3f6c8a8604140b"), looks := false }, kinds := [], alts := [], laidByText := true, laidKinds := [.data, .pinned], laidTests := true, laidLooks := .later }
def FnTeamsCardSaid : Prop := Claim7.holds Tryz.pinned (.plain (OpenSpec.ofChange fnTeamsSpec)) fnTeamsCard

/-- THE TIED CARD OF 'laws.FnTeamCounts'. -/
def fnTeamCountsCard : Claim7 := { stood := { row := fnTeamCountsRow, standIns := [], harness := (true, "d2c749c8828ed9c9b1ba103e6d127426e1b14f954d21a3a2ce3f6c8a8604140b"), looks := false }, kinds := [], alts := [], laidByText := true, laidKinds := [.data, .pinned], laidTests := true, laidLooks := .later }
def FnTeamCountsCardSaid : Prop := Claim7.holds Tryz.pinned (.plain (OpenSpec.ofChange fnTeamCountsSpec)) fnTeamCountsCard

/-- THE SECOND FORM's CARD OF 'laws.FnTeams'. -/
def fnTeamsUptoCard : Claim7 := { stood := { row := fnTeamsUptoRow, standIns := [], harness := (true, "d2c749c8828ed9c9b1ba103e6d127426e1b14f954d21a3a2ce3f6c8a8604140b"), looks := false }, kinds := [], alts := [], laidByText := true, laidKinds := [.data, .pinned], laidTests := true, laidLooks := .later }
def FnTeamsUptoCardSaid : Prop := Claim7.holds Tryz.pinned (.plain (OpenSpec.upto fnTeamsSpec)) fnTeamsUptoCard

/-- THE SECOND FORM's CARD OF 'laws.FnTeamCounts'. -/
def fnTeamCountsUptoCard : Claim7 := { stood := { row := fnTeamCountsUptoRow, standIns := [], harness := (true, "d2c749c8828ed9c9b1ba103e6d127426e1b14f954d21a3a2ce3f6c8a8604140b"), looks := false }, kinds := [], alts := [], laidByText := true, laidKinds := [.data, .pinned], laidTests := true, laidLooks := .later }
def FnTeamCountsUptoCardSaid : Prop := Claim7.holds Tryz.pinned (.plain (OpenSpec.upto fnTeamCountsSpec)) fnTeamCountsUptoCard
end Rows
end Go.Proofs.YtafdklajmklmkaaGreatDoor
