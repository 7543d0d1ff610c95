/-
  DERIVED. GIVEN WITH THE SEED: THE CARDS: each row of YtjcmolbaanedaaaDoorRows.lean that lists a variable, with what it lists TIED to the program's text (the seventh form; the later family's looks); each row that meets fmt, with fmt's text TOLD by the authors' own Lean function (tested against real Go, not proved from fmt's source: count such statements apart). THE CARD IS WHAT COUNTS. Prove the row's statement (the work); the ties are given (YtjcmolbaanedaaaDoorTie.lean); close each card by the builder's one call (the guide's Derived/Test/ToyasCard.lean, 'card_holds'). Laid BY PROGRAM, IN A SANDBOX (cutbox-door.mjs). By AI agents, Wed Nov 11 2026. No macro, syntax, notation, axiom, sorry.
-/
import Derived.Test.YtjcmolbaanedaaaDoorRows
import GoSem.ClaimSeven
namespace Go.Proofs.YtjcmolbaanedaaaDoor
namespace Rows

/-- THE TIED CARD OF 'laws.FnExactShiftOf'. -/
def fnExactShiftOfCard : Claim7 := { stood := { row := fnExactShiftOfRow, standIns := [], harness := (true, "ef034a9183d643448d1bf37394c5b5c91e1682ded702657b7a0c60713e2e74b5"), looks := false }, kinds := [], alts := [], laidByText := true, laidKinds := [.data], laidTests := true, laidLooks := .later }
def FnExactShiftOfCardSaid : Prop := Claim7.holds Tryd.pinned (.plain (OpenSpec.ofChange fnExactShiftOfSpec)) fnExactShiftOfCard

/-- THE TIED CARD OF 'laws.FnExactChainShift'. -/
def fnExactChainShiftCard : Claim7 := { stood := { row := fnExactChainShiftRow, standIns := [], harness := (true, "ef034a9183d643448d1bf37394c5b5c91e1682ded702657b7a0c60713e2e74b5"), looks := false }, kinds := [], alts := [], laidByText := true, laidKinds := [.data], laidTests := true, laidLooks := .later }
def FnExactChainShiftCardSaid : Prop := Claim7.holds Tryd.pinned (.plain (OpenSpec.ofChange fnExactChainShiftSpec)) fnExactChainShiftCard

/-- THE TIED CARD OF 'laws.FnExactDeepestStation'. -/
def fnExactDeepestStationCard : Claim7 := { stood := { row := fnExactDeepestStationRow, standIns := [], harness := (true, "ef034a9183d643448d1bf37394c5b5c91e1682ded702657b7a0c60713e2e74b5"), looks := false }, kinds := [], alts := [], laidByText := true, laidKinds := [.data], laidTests := true, laidLooks := .later }
def FnExactDeepestStationCardSaid : Prop := Claim7.holds Tryd.pinned (.plain (OpenSpec.ofChange fnExactDeepestStationSpec)) fnExactDeepestStationCard

/-- THE TIED CARD OF 'laws.FnExactPlaceOf'. -/
def fnExactPlaceOfCard : Claim7 := { stood := { row := fnExactPlaceOfRow, standIns := [], harness := (true, "ef034a9183d643448d1bf37394c5b5c91e1682ded702657b7a0c60713e2e74b5"), looks := false }, kinds := [], alts := [], laidByText := true, laidKinds := [.data], laidTests := true, laidLooks := .later }
def FnExactPlaceOfCardSaid : Prop := Claim7.holds Tryd.pinned (.plain (OpenSpec.ofChange fnExactPlaceOfSpec)) fnExactPlaceOfCard

/-- THE TIED CARD OF 'laws.FnExactErrorOf'. -/
def fnExactErrorOfCard : Claim7 := { stood := { row := fnExactErrorOfRow, standIns := [], harness := (true, "ef034a9183d643448d1bf37394c5b5c91e1682ded702657b7a0c60713e2e74b5"), looks := false }, kinds := [], alts := [], laidByText := true, laidKinds := [.data], laidTests := true, laidLooks := .later }
def FnExactErrorOfCardSaid : Prop := Claim7.holds Tryd.pinned (.plain (OpenSpec.ofChange fnExactErrorOfSpec)) fnExactErrorOfCard

/-- THE TIED CARD OF 'laws.FnExactDepthOf'. -/
def fnExactDepthOfCard : Claim7 := { stood := { row := fnExactDepthOfRow, standIns := [], harness := (true, "ef034a9183d643448d1bf37394c5b5c91e1682ded702657b7a0c60713e2e74b5"), looks := false }, kinds := [], alts := [], laidByText := true, laidKinds := [.data], laidTests := true, laidLooks := .later }
def FnExactDepthOfCardSaid : Prop := Claim7.holds Tryd.pinned (.plain (OpenSpec.ofChange fnExactDepthOfSpec)) fnExactDepthOfCard

/-- THE TIED CARD OF 'laws.FnExactExtentOf'. -/
def fnExactExtentOfCard : Claim7 := { stood := { row := fnExactExtentOfRow, standIns := [], harness := (true, "ef034a9183d643448d1bf37394c5b5c91e1682ded702657b7a0c60713e2e74b5"), looks := false }, kinds := [], alts := [], laidByText := true, laidKinds := [.data], laidTests := true, laidLooks := .later }
def FnExactExtentOfCardSaid : Prop := Claim7.holds Tryd.pinned (.plain (OpenSpec.ofChange fnExactExtentOfSpec)) fnExactExtentOfCard

/-- THE TIED CARD OF 'laws.FnExactClosingLegs'. -/
def fnExactClosingLegsCard : Claim7 := { stood := { row := fnExactClosingLegsRow, standIns := [], harness := (true, "ef034a9183d643448d1bf37394c5b5c91e1682ded702657b7a0c60713e2e74b5"), looks := false }, kinds := [], alts := [], laidByText := true, laidKinds := [.data], laidTests := true, laidLooks := .later }
def FnExactClosingLegsCardSaid : Prop := Claim7.holds Tryd.pinned (.plain (OpenSpec.ofChange fnExactClosingLegsSpec)) fnExactClosingLegsCard

/-- THE TIED CARD OF 'laws.FnExactPlacedStations'. -/
def fnExactPlacedStationsCard : Claim7 := { stood := { row := fnExactPlacedStationsRow, standIns := [], harness := (true, "ef034a9183d643448d1bf37394c5b5c91e1682ded702657b7a0c60713e2e74b5"), looks := false }, kinds := [], alts := [], laidByText := true, laidKinds := [.data], laidTests := true, laidLooks := .later }
def FnExactPlacedStationsCardSaid : Prop := Claim7.holds Tryd.pinned (.plain (OpenSpec.ofChange fnExactPlacedStationsSpec)) fnExactPlacedStationsCard

/-- THE TIED CARD OF 'laws.FnExactTreeLegs'. -/
def fnExactTreeLegsCard : Claim7 := { stood := { row := fnExactTreeLegsRow, standIns := [], harness := (true, "ef034a9183d643448d1bf37394c5b5c91e1682ded702657b7a0c60713e2e74b5"), looks := false }, kinds := [], alts := [], laidByText := true, laidKinds := [.data], laidTests := true, laidLooks := .later }
def FnExactTreeLegsCardSaid : Prop := Claim7.holds Tryd.pinned (.plain (OpenSpec.ofChange fnExactTreeLegsSpec)) fnExactTreeLegsCard

/-- THE SECOND FORM's CARD OF 'laws.FnExactShiftOf'. -/
def fnExactShiftOfUptoCard : Claim7 := { stood := { row := fnExactShiftOfUptoRow, standIns := [], harness := (true, "ef034a9183d643448d1bf37394c5b5c91e1682ded702657b7a0c60713e2e74b5"), looks := false }, kinds := [], alts := [], laidByText := true, laidKinds := [.data], laidTests := true, laidLooks := .later }
def FnExactShiftOfUptoCardSaid : Prop := Claim7.holds Tryd.pinned (.plain (OpenSpec.upto fnExactShiftOfSpec)) fnExactShiftOfUptoCard

/-- THE SECOND FORM's CARD OF 'laws.FnExactChainShift'. -/
def fnExactChainShiftUptoCard : Claim7 := { stood := { row := fnExactChainShiftUptoRow, standIns := [], harness := (true, "ef034a9183d643448d1bf37394c5b5c91e1682ded702657b7a0c60713e2e74b5"), looks := false }, kinds := [], alts := [], laidByText := true, laidKinds := [.data], laidTests := true, laidLooks := .later }
def FnExactChainShiftUptoCardSaid : Prop := Claim7.holds Tryd.pinned (.plain (OpenSpec.upto fnExactChainShiftSpec)) fnExactChainShiftUptoCard

/-- THE SECOND FORM's CARD OF 'laws.FnExactDeepestStation'. -/
def fnExactDeepestStationUptoCard : Claim7 := { stood := { row := fnExactDeepestStationUptoRow, standIns := [], harness := (true, "ef034a9183d643448d1bf37394c5b5c91e1682ded702657b7a0c60713e2e74b5"), looks := false }, kinds := [], alts := [], laidByText := true, laidKinds := [.data], laidTests := true, laidLooks := .later }
def FnExactDeepestStationUptoCardSaid : Prop := Claim7.holds Tryd.pinned (.plain (OpenSpec.upto fnExactDeepestStationSpec)) fnExactDeepestStationUptoCard

/-- THE SECOND FORM's CARD OF 'laws.FnExactPlaceOf'. -/
def fnExactPlaceOfUptoCard : Claim7 := { stood := { row := fnExactPlaceOfUptoRow, standIns := [], harness := (true, "ef034a9183d643448d1bf37394c5b5c91e1682ded702657b7a0c60713e2e74b5"), looks := false }, kinds := [], alts := [], laidByText := true, laidKinds := [.data], laidTests := true, laidLooks := .later }
def FnExactPlaceOfUptoCardSaid : Prop := Claim7.holds Tryd.pinned (.plain (OpenSpec.upto fnExactPlaceOfSpec)) fnExactPlaceOfUptoCard

/-- THE SECOND FORM's CARD OF 'laws.FnExactErrorOf'. -/
def fnExactErrorOfUptoCard : Claim7 := { stood := { row := fnExactErrorOfUptoRow, standIns := [], harness := (true, "ef034a9183d643448d1bf37394c5b5c91e1682ded702657b7a0c60713e2e74b5"), looks := false }, kinds := [], alts := [], laidByText := true, laidKinds := [.data], laidTests := true, laidLooks := .later }
def FnExactErrorOfUptoCardSaid : Prop := Claim7.holds Tryd.pinned (.plain (OpenSpec.upto fnExactErrorOfSpec)) fnExactErrorOfUptoCard

/-- THE SECOND FORM's CARD OF 'laws.FnExactDepthOf'. -/
def fnExactDepthOfUptoCard : Claim7 := { stood := { row := fnExactDepthOfUptoRow, standIns := [], harness := (true, "ef034a9183d643448d1bf37394c5b5c91e1682ded702657b7a0c60713e2e74b5"), looks := false }, kinds := [], alts := [], laidByText := true, laidKinds := [.data], laidTests := true, laidLooks := .later }
def FnExactDepthOfUptoCardSaid : Prop := Claim7.holds Tryd.pinned (.plain (OpenSpec.upto fnExactDepthOfSpec)) fnExactDepthOfUptoCard

/-- THE SECOND FORM's CARD OF 'laws.FnExactExtentOf'. -/
def fnExactExtentOfUptoCard : Claim7 := { stood := { row := fnExactExtentOfUptoRow, standIns := [], harness := (true, "ef034a9183d643448d1bf37394c5b5c91e1682ded702657b7a0c60713e2e74b5"), looks := false }, kinds := [], alts := [], laidByText := true, laidKinds := [.data], laidTests := true, laidLooks := .later }
def FnExactExtentOfUptoCardSaid : Prop := Claim7.holds Tryd.pinned (.plain (OpenSpec.upto fnExactExtentOfSpec)) fnExactExtentOfUptoCard

/-- THE SECOND FORM's CARD OF 'laws.FnExactClosingLegs'. -/
def fnExactClosingLegsUptoCard : Claim7 := { stood := { row := fnExactClosingLegsUptoRow, standIns := [], harness := (true, "ef034a9183d643448d1bf37394c5b5c91e1682ded702657b7a0c60713e2e74b5"), looks := false }, kinds := [], alts := [], laidByText := true, laidKinds := [.data], laidTests := true, laidLooks := .later }
def FnExactClosingLegsUptoCardSaid : Prop := Claim7.holds Tryd.pinned (.plain (OpenSpec.upto fnExactClosingLegsSpec)) fnExactClosingLegsUptoCard

/-- THE SECOND FORM's CARD OF 'laws.FnExactPlacedStations'. -/
def fnExactPlacedStationsUptoCard : Claim7 := { stood := { row := fnExactPlacedStationsUptoRow, standIns := [], harness := (true, "ef034a9183d643448d1bf37394c5b5c91e1682ded702657b7a0c60713e2e74b5"), looks := false }, kinds := [], alts := [], laidByText := true, laidKinds := [.data], laidTests := true, laidLooks := .later }
def FnExactPlacedStationsUptoCardSaid : Prop := Claim7.holds Tryd.pinned (.plain (OpenSpec.upto fnExactPlacedStationsSpec)) fnExactPlacedStationsUptoCard

/-- THE SECOND FORM's CARD OF 'laws.FnExactTreeLegs'. -/
def fnExactTreeLegsUptoCard : Claim7 := { stood := { row := fnExactTreeLegsUptoRow, standIns := [], harness := (true, "ef034a9183d643448d1bf37394c5b5c91e1682ded702657b7a0c60713e2e74b5"), looks := false }, kinds := [], alts := [], laidByText := true, laidKinds := [.data], laidTests := true, laidLooks := .later }
def FnExactTreeLegsUptoCardSaid : Prop := Claim7.holds Tryd.pinned (.plain (OpenSpec.upto fnExactTreeLegsSpec)) fnExactTreeLegsUptoCard
end Rows
end Go.Proofs.YtjcmolbaanedaaaDoor
