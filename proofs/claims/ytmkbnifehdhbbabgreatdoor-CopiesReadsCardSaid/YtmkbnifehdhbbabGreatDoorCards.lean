/-
  DERIVED. GIVEN WITH THE SEED: THE CARDS: each row of YtmkbnifehdhbbabGreatDoorRows.lean that lists a variable, with what it lists TIED to the program's text (the seventh form; the later family's looks); each row that meets fmt, with fmt's text TOLD by the authors' own Lean function (tested against real Go, not proved from fmt's source: count such statements apart). THE CARD IS WHAT COUNTS. Prove the row's statement (the work); the ties are given (YtmkbnifehdhbbabGreatDoorTie.lean); close each card by the builder's one call (the guide's Derived/Test/ToyasCard.lean, 'card_holds'). Laid BY PROGRAM, IN A SANDBOX (cutbox-door.mjs). By AI agents, Wed Nov 11 2026. No macro, syntax, notation, axiom, sorry.
-/
import Derived.Test.YtmkbnifehdhbbabGreatDoorRows
import GoSem.ClaimSeven
namespace Go.Proofs.YtmkbnifehdhbbabGreatDoor
namespace Rows

/-- THE TIED CARD OF 'ephemeristlaw07.CopiesAparts'. -/
def copiesApartsCard : Claim7 := { stood := { row := copiesApartsRow, standIns := [], harness := (true, "d0b7961701d66e5faff0bbf6f9e812e494de12179ce161f3b3dee8bc94afbba0"), looks := true }, kinds := [], alts := [], laidByText := true, laidKinds := [.data, .data, .data, .data, .pinned], laidTests := true, laidLooks := .later }
def CopiesApartsCardSaid : Prop := Claim7.holds Tryz.pinned (.plain (OpenSpec.ofChange copiesApartsSpec)) copiesApartsCard

/-- THE TIED CARD OF 'ephemeristlaw07.CopiesAlone'. -/
def copiesAloneCard : Claim7 := { stood := { row := copiesAloneRow, standIns := [], harness := (true, "d0b7961701d66e5faff0bbf6f9e812e494de12179ce161f3b3dee8bc94afbba0"), looks := true }, kinds := [], alts := [], laidByText := true, laidKinds := [.data, .data, .data, .data, .pinned], laidTests := true, laidLooks := .later }
def CopiesAloneCardSaid : Prop := Claim7.holds Tryz.pinned (.plain (OpenSpec.ofChange copiesAloneSpec)) copiesAloneCard

/-- THE TIED CARD OF 'ephemeristlaw07.CopiesAgains'. -/
def copiesAgainsCard : Claim7 := { stood := { row := copiesAgainsRow, standIns := [], harness := (true, "d0b7961701d66e5faff0bbf6f9e812e494de12179ce161f3b3dee8bc94afbba0"), looks := true }, kinds := [], alts := [], laidByText := true, laidKinds := [.data, .data, .data, .data, .pinned], laidTests := true, laidLooks := .later }
def CopiesAgainsCardSaid : Prop := Claim7.holds Tryz.pinned (.plain (OpenSpec.ofChange copiesAgainsSpec)) copiesAgainsCard

/-- THE TIED CARD OF 'ephemeristlaw07.CopiesMended'. -/
def copiesMendedCard : Claim7 := { stood := { row := copiesMendedRow, standIns := [], harness := (true, "d0b7961701d66e5faff0bbf6f9e812e494de12179ce161f3b3dee8bc94afbba0"), looks := true }, kinds := [], alts := [], laidByText := true, laidKinds := [.data, .data, .data, .data, .pinned], laidTests := true, laidLooks := .later }
def CopiesMendedCardSaid : Prop := Claim7.holds Tryz.pinned (.plain (OpenSpec.ofChange copiesMendedSpec)) copiesMendedCard

/-- THE TIED CARD OF 'ephemeristlaw07.CopiesMore'. -/
def copiesMoreCard : Claim7 := { stood := { row := copiesMoreRow, standIns := [], harness := (true, "d0b7961701d66e5faff0bbf6f9e812e494de12179ce161f3b3dee8bc94afbba0"), looks := true }, kinds := [], alts := [], laidByText := true, laidKinds := [.data, .data, .data, .data, .pinned], laidTests := true, laidLooks := .later }
def CopiesMoreCardSaid : Prop := Claim7.holds Tryz.pinned (.plain (OpenSpec.ofChange copiesMoreSpec)) copiesMoreCard

/-- THE TIED CARD OF 'ephemeristlaw07.CopiesErrors'. -/
def copiesErrorsCard : Claim7 := { stood := { row := copiesErrorsRow, standIns := [], harness := (true, "d0b7961701d66e5faff0bbf6f9e812e494de12179ce161f3b3dee8bc94afbba0"), looks := true }, kinds := [], alts := [], laidByText := true, laidKinds := [.data, .data, .data, .data, .pinned], laidTests := true, laidLooks := .later }
def CopiesErrorsCardSaid : Prop := Claim7.holds Tryz.pinned (.plain (OpenSpec.ofChange copiesErrorsSpec)) copiesErrorsCard

/-- THE TIED CARD OF 'ephemeristlaw07.CopiesPrints'. -/
def copiesPrintsCard : Claim7 := { stood := { row := copiesPrintsRow, standIns := [], harness := (true, "d0b7961701d66e5faff0bbf6f9e812e494de12179ce161f3b3dee8bc94afbba0"), looks := true }, kinds := [], alts := [], laidByText := true, laidKinds := [.data, .data, .data, .data, .pinned], laidTests := true, laidLooks := .later }
def CopiesPrintsCardSaid : Prop := Claim7.holds Tryz.pinned (.plain (OpenSpec.ofChange copiesPrintsSpec)) copiesPrintsCard

/-- THE TIED CARD OF 'ephemeristlaw07.CopiesReads'. -/
def copiesReadsCard : Claim7 := { stood := { row := copiesReadsRow, standIns := [], harness := (true, "d0b7961701d66e5faff0bbf6f9e812e494de12179ce161f3b3dee8bc94afbba0"), looks := true }, kinds := [], alts := [], laidByText := true, laidKinds := [.data, .data, .data, .data, .pinned], laidTests := true, laidLooks := .later }
def CopiesReadsCardSaid : Prop := Claim7.holds Tryz.pinned (.plain (OpenSpec.ofChange copiesReadsSpec)) copiesReadsCard

/-- THE TIED CARD OF 'ephemeristlaw07.CopiesSpoilt'. -/
def copiesSpoiltCard : Claim7 := { stood := { row := copiesSpoiltRow, standIns := [], harness := (true, "d0b7961701d66e5faff0bbf6f9e812e494de12179ce161f3b3dee8bc94afbba0"), looks := true }, kinds := [], alts := [], laidByText := true, laidKinds := [.data, .data, .data, .data, .pinned], laidTests := true, laidLooks := .later }
def CopiesSpoiltCardSaid : Prop := Claim7.holds Tryz.pinned (.plain (OpenSpec.ofChange copiesSpoiltSpec)) copiesSpoiltCard

/-- THE SECOND FORM's CARD OF 'ephemeristlaw07.CopiesAparts'. -/
def copiesApartsUptoCard : Claim7 := { stood := { row := copiesApartsUptoRow, standIns := [], harness := (true, "d0b7961701d66e5faff0bbf6f9e812e494de12179ce161f3b3dee8bc94afbba0"), looks := true }, kinds := [], alts := [], laidByText := true, laidKinds := [.data, .data, .data, .data, .pinned], laidTests := true, laidLooks := .later }
def CopiesApartsUptoCardSaid : Prop := Claim7.holds Tryz.pinned (.plain (OpenSpec.upto copiesApartsSpec)) copiesApartsUptoCard

/-- THE SECOND FORM's CARD OF 'ephemeristlaw07.CopiesAlone'. -/
def copiesAloneUptoCard : Claim7 := { stood := { row := copiesAloneUptoRow, standIns := [], harness := (true, "d0b7961701d66e5faff0bbf6f9e812e494de12179ce161f3b3dee8bc94afbba0"), looks := true }, kinds := [], alts := [], laidByText := true, laidKinds := [.data, .data, .data, .data, .pinned], laidTests := true, laidLooks := .later }
def CopiesAloneUptoCardSaid : Prop := Claim7.holds Tryz.pinned (.plain (OpenSpec.upto copiesAloneSpec)) copiesAloneUptoCard

/-- THE SECOND FORM's CARD OF 'ephemeristlaw07.CopiesAgains'. -/
def copiesAgainsUptoCard : Claim7 := { stood := { row := copiesAgainsUptoRow, standIns := [], harness := (true, "d0b7961701d66e5faff0bbf6f9e812e494de12179ce161f3b3dee8bc94afbba0"), looks := true }, kinds := [], alts := [], laidByText := true, laidKinds := [.data, .data, .data, .data, .pinned], laidTests := true, laidLooks := .later }
def CopiesAgainsUptoCardSaid : Prop := Claim7.holds Tryz.pinned (.plain (OpenSpec.upto copiesAgainsSpec)) copiesAgainsUptoCard

/-- THE SECOND FORM's CARD OF 'ephemeristlaw07.CopiesMended'. -/
def copiesMendedUptoCard : Claim7 := { stood := { row := copiesMendedUptoRow, standIns := [], harness := (true, "d0b7961701d66e5faff0bbf6f9e812e494de12179ce161f3b3dee8bc94afbba0"), looks := true }, kinds := [], alts := [], laidByText := true, laidKinds := [.data, .data, .data, .data, .pinned], laidTests := true, laidLooks := .later }
def CopiesMendedUptoCardSaid : Prop := Claim7.holds Tryz.pinned (.plain (OpenSpec.upto copiesMendedSpec)) copiesMendedUptoCard

/-- THE SECOND FORM's CARD OF 'ephemeristlaw07.CopiesMore'. -/
def copiesMoreUptoCard : Claim7 := { stood := { row := copiesMoreUptoRow, standIns := [], harness := (true, "d0b7961701d66e5faff0bbf6f9e812e494de12179ce161f3b3dee8bc94afbba0"), looks := true }, kinds := [], alts := [], laidByText := true, laidKinds := [.data, .data, .data, .data, .pinned], laidTests := true, laidLooks := .later }
def CopiesMoreUptoCardSaid : Prop := Claim7.holds Tryz.pinned (.plain (OpenSpec.upto copiesMoreSpec)) copiesMoreUptoCard

/-- THE SECOND FORM's CARD OF 'ephemeristlaw07.CopiesErrors'. -/
def copiesErrorsUptoCard : Claim7 := { stood := { row := copiesErrorsUptoRow, standIns := [], harness := (true, "d0b7961701d66e5faff0bbf6f9e812e494de12179ce161f3b3dee8bc94afbba0"), looks := true }, kinds := [], alts := [], laidByText := true, laidKinds := [.data, .data, .data, .data, .pinned], laidTests := true, laidLooks := .later }
def CopiesErrorsUptoCardSaid : Prop := Claim7.holds Tryz.pinned (.plain (OpenSpec.upto copiesErrorsSpec)) copiesErrorsUptoCard

/-- THE SECOND FORM's CARD OF 'ephemeristlaw07.CopiesPrints'. -/
def copiesPrintsUptoCard : Claim7 := { stood := { row := copiesPrintsUptoRow, standIns := [], harness := (true, "d0b7961701d66e5faff0bbf6f9e812e494de12179ce161f3b3dee8bc94afbba0"), looks := true }, kinds := [], alts := [], laidByText := true, laidKinds := [.data, .data, .data, .data, .pinned], laidTests := true, laidLooks := .later }
def CopiesPrintsUptoCardSaid : Prop := Claim7.holds Tryz.pinned (.plain (OpenSpec.upto copiesPrintsSpec)) copiesPrintsUptoCard

/-- THE SECOND FORM's CARD OF 'ephemeristlaw07.CopiesReads'. -/
def copiesReadsUptoCard : Claim7 := { stood := { row := copiesReadsUptoRow, standIns := [], harness := (true, "d0b7961701d66e5faff0bbf6f9e812e494de12179ce161f3b3dee8bc94afbba0"), looks := true }, kinds := [], alts := [], laidByText := true, laidKinds := [.data, .data, .data, .data, .pinned], laidTests := true, laidLooks := .later }
def CopiesReadsUptoCardSaid : Prop := Claim7.holds Tryz.pinned (.plain (OpenSpec.upto copiesReadsSpec)) copiesReadsUptoCard

/-- THE SECOND FORM's CARD OF 'ephemeristlaw07.CopiesSpoilt'. -/
def copiesSpoiltUptoCard : Claim7 := { stood := { row := copiesSpoiltUptoRow, standIns := [], harness := (true, "d0b7961701d66e5faff0bbf6f9e812e494de12179ce161f3b3dee8bc94afbba0"), looks := true }, kinds := [], alts := [], laidByText := true, laidKinds := [.data, .data, .data, .data, .pinned], laidTests := true, laidLooks := .later }
def CopiesSpoiltUptoCardSaid : Prop := Claim7.holds Tryz.pinned (.plain (OpenSpec.upto copiesSpoiltSpec)) copiesSpoiltUptoCard
end Rows
end Go.Proofs.YtmkbnifehdhbbabGreatDoor
