/-
  DERIVED. GIVEN WITH THE SEED: THE CARDS: each row of YtmkbnifehdhbbaaGreatDoorRows.lean that lists a variable, with what it lists TIED to the program's text (the seventh form; the later family's looks); each row that meets fmt, with fmt's text TOLD by the authors' own Lean function (tested against real Go, not proved from fmt's source: count such statements apart). THE CARD IS WHAT COUNTS. Prove the row's statement (the work); the ties are given (YtmkbnifehdhbbaaGreatDoorTie.lean); close each card by the builder's one call (the guide's Derived/Test/ToyasCard.lean, 'card_holds'). Laid BY PROGRAM, IN A SANDBOX (cutbox-door.mjs). By AI agents, Wed Nov 11 2026. No macro, syntax, notation, axiom, sorry.
-/
import Derived.Test.YtmkbnifehdhbbaaGreatDoorRows
import GoSem.ClaimSeven
namespace Go.Proofs.YtmkbnifehdhbbaaGreatDoor
namespace Rows

/-- THE TIED CARD OF 'ephemeristlaw07.CopiesPaths'. -/
def copiesPathsCard : Claim7 := { stood := { row := copiesPathsRow, standIns := [], harness := (true, "097b3f2d4bf7b1990c1db747358a5df7783f0fc4cb834a8d8d9c2f9fabaaba8b"), looks := true }, kinds := [], alts := [], laidByText := true, laidKinds := [.data, .data, .data, .data, .pinned], laidTests := true, laidLooks := .later }
def CopiesPathsCardSaid : Prop := Claim7.holds Tryz.pinned (.plain (OpenSpec.ofChange copiesPathsSpec)) copiesPathsCard

/-- THE TIED CARD OF 'ephemeristlaw07.CopiesKin'. -/
def copiesKinCard : Claim7 := { stood := { row := copiesKinRow, standIns := [], harness := (true, "097b3f2d4bf7b1990c1db747358a5df7783f0fc4cb834a8d8d9c2f9fabaaba8b"), looks := true }, kinds := [], alts := [], laidByText := true, laidKinds := [.data, .data, .data, .data, .pinned], laidTests := true, laidLooks := .later }
def CopiesKinCardSaid : Prop := Claim7.holds Tryz.pinned (.plain (OpenSpec.ofChange copiesKinSpec)) copiesKinCard

/-- THE TIED CARD OF 'ephemeristlaw07.CopiesFirsts'. -/
def copiesFirstsCard : Claim7 := { stood := { row := copiesFirstsRow, standIns := [], harness := (true, "097b3f2d4bf7b1990c1db747358a5df7783f0fc4cb834a8d8d9c2f9fabaaba8b"), looks := true }, kinds := [], alts := [], laidByText := true, laidKinds := [.data, .data, .data, .data, .pinned], laidTests := true, laidLooks := .later }
def CopiesFirstsCardSaid : Prop := Claim7.holds Tryz.pinned (.plain (OpenSpec.ofChange copiesFirstsSpec)) copiesFirstsCard

/-- THE TIED CARD OF 'ephemeristlaw07.CopiesRival'. -/
def copiesRivalCard : Claim7 := { stood := { row := copiesRivalRow, standIns := [], harness := (true, "097b3f2d4bf7b1990c1db747358a5df7783f0fc4cb834a8d8d9c2f9fabaaba8b"), looks := true }, kinds := [], alts := [], laidByText := true, laidKinds := [.data, .data, .data, .data, .pinned], laidTests := true, laidLooks := .later }
def CopiesRivalCardSaid : Prop := Claim7.holds Tryz.pinned (.plain (OpenSpec.ofChange copiesRivalSpec)) copiesRivalCard

/-- THE TIED CARD OF 'ephemeristlaw07.CopiesBlames'. -/
def copiesBlamesCard : Claim7 := { stood := { row := copiesBlamesRow, standIns := [], harness := (true, "097b3f2d4bf7b1990c1db747358a5df7783f0fc4cb834a8d8d9c2f9fabaaba8b"), looks := true }, kinds := [], alts := [], laidByText := true, laidKinds := [.data, .data, .data, .data, .pinned], laidTests := true, laidLooks := .later }
def CopiesBlamesCardSaid : Prop := Claim7.holds Tryz.pinned (.plain (OpenSpec.ofChange copiesBlamesSpec)) copiesBlamesCard

/-- THE TIED CARD OF 'ephemeristlaw07.CopiesTrue'. -/
def copiesTrueCard : Claim7 := { stood := { row := copiesTrueRow, standIns := [], harness := (true, "097b3f2d4bf7b1990c1db747358a5df7783f0fc4cb834a8d8d9c2f9fabaaba8b"), looks := true }, kinds := [], alts := [], laidByText := true, laidKinds := [.data, .data, .data, .data, .pinned], laidTests := true, laidLooks := .later }
def CopiesTrueCardSaid : Prop := Claim7.holds Tryz.pinned (.plain (OpenSpec.ofChange copiesTrueSpec)) copiesTrueCard

/-- THE TIED CARD OF 'ephemeristlaw07.CopiesNexts'. -/
def copiesNextsCard : Claim7 := { stood := { row := copiesNextsRow, standIns := [], harness := (true, "097b3f2d4bf7b1990c1db747358a5df7783f0fc4cb834a8d8d9c2f9fabaaba8b"), looks := true }, kinds := [], alts := [], laidByText := true, laidKinds := [.data, .data, .data, .data, .pinned], laidTests := true, laidLooks := .later }
def CopiesNextsCardSaid : Prop := Claim7.holds Tryz.pinned (.plain (OpenSpec.ofChange copiesNextsSpec)) copiesNextsCard

/-- THE TIED CARD OF 'ephemeristlaw07.CopiesAsked'. -/
def copiesAskedCard : Claim7 := { stood := { row := copiesAskedRow, standIns := [], harness := (true, "097b3f2d4bf7b1990c1db747358a5df7783f0fc4cb834a8d8d9c2f9fabaaba8b"), looks := true }, kinds := [], alts := [], laidByText := true, laidKinds := [.data, .data, .data, .data, .pinned], laidTests := true, laidLooks := .later }
def CopiesAskedCardSaid : Prop := Claim7.holds Tryz.pinned (.plain (OpenSpec.ofChange copiesAskedSpec)) copiesAskedCard

/-- THE TIED CARD OF 'ephemeristlaw07.CopiesSources'. -/
def copiesSourcesCard : Claim7 := { stood := { row := copiesSourcesRow, standIns := [], harness := (true, "097b3f2d4bf7b1990c1db747358a5df7783f0fc4cb834a8d8d9c2f9fabaaba8b"), looks := true }, kinds := [], alts := [], laidByText := true, laidKinds := [.data, .data, .data, .data, .pinned], laidTests := true, laidLooks := .later }
def CopiesSourcesCardSaid : Prop := Claim7.holds Tryz.pinned (.plain (OpenSpec.ofChange copiesSourcesSpec)) copiesSourcesCard

/-- THE TIED CARD OF 'ephemeristlaw07.CopiesSourced'. -/
def copiesSourcedCard : Claim7 := { stood := { row := copiesSourcedRow, standIns := [], harness := (true, "097b3f2d4bf7b1990c1db747358a5df7783f0fc4cb834a8d8d9c2f9fabaaba8b"), looks := true }, kinds := [], alts := [], laidByText := true, laidKinds := [.data, .data, .data, .data, .pinned], laidTests := true, laidLooks := .later }
def CopiesSourcedCardSaid : Prop := Claim7.holds Tryz.pinned (.plain (OpenSpec.ofChange copiesSourcedSpec)) copiesSourcedCard

/-- THE SECOND FORM's CARD OF 'ephemeristlaw07.CopiesPaths'. -/
def copiesPathsUptoCard : Claim7 := { stood := { row := copiesPathsUptoRow, standIns := [], harness := (true, "097b3f2d4bf7b1990c1db747358a5df7783f0fc4cb834a8d8d9c2f9fabaaba8b"), looks := true }, kinds := [], alts := [], laidByText := true, laidKinds := [.data, .data, .data, .data, .pinned], laidTests := true, laidLooks := .later }
def CopiesPathsUptoCardSaid : Prop := Claim7.holds Tryz.pinned (.plain (OpenSpec.upto copiesPathsSpec)) copiesPathsUptoCard

/-- THE SECOND FORM's CARD OF 'ephemeristlaw07.CopiesKin'. -/
def copiesKinUptoCard : Claim7 := { stood := { row := copiesKinUptoRow, standIns := [], harness := (true, "097b3f2d4bf7b1990c1db747358a5df7783f0fc4cb834a8d8d9c2f9fabaaba8b"), looks := true }, kinds := [], alts := [], laidByText := true, laidKinds := [.data, .data, .data, .data, .pinned], laidTests := true, laidLooks := .later }
def CopiesKinUptoCardSaid : Prop := Claim7.holds Tryz.pinned (.plain (OpenSpec.upto copiesKinSpec)) copiesKinUptoCard

/-- THE SECOND FORM's CARD OF 'ephemeristlaw07.CopiesFirsts'. -/
def copiesFirstsUptoCard : Claim7 := { stood := { row := copiesFirstsUptoRow, standIns := [], harness := (true, "097b3f2d4bf7b1990c1db747358a5df7783f0fc4cb834a8d8d9c2f9fabaaba8b"), looks := true }, kinds := [], alts := [], laidByText := true, laidKinds := [.data, .data, .data, .data, .pinned], laidTests := true, laidLooks := .later }
def CopiesFirstsUptoCardSaid : Prop := Claim7.holds Tryz.pinned (.plain (OpenSpec.upto copiesFirstsSpec)) copiesFirstsUptoCard

/-- THE SECOND FORM's CARD OF 'ephemeristlaw07.CopiesRival'. -/
def copiesRivalUptoCard : Claim7 := { stood := { row := copiesRivalUptoRow, standIns := [], harness := (true, "097b3f2d4bf7b1990c1db747358a5df7783f0fc4cb834a8d8d9c2f9fabaaba8b"), looks := true }, kinds := [], alts := [], laidByText := true, laidKinds := [.data, .data, .data, .data, .pinned], laidTests := true, laidLooks := .later }
def CopiesRivalUptoCardSaid : Prop := Claim7.holds Tryz.pinned (.plain (OpenSpec.upto copiesRivalSpec)) copiesRivalUptoCard

/-- THE SECOND FORM's CARD OF 'ephemeristlaw07.CopiesBlames'. -/
def copiesBlamesUptoCard : Claim7 := { stood := { row := copiesBlamesUptoRow, standIns := [], harness := (true, "097b3f2d4bf7b1990c1db747358a5df7783f0fc4cb834a8d8d9c2f9fabaaba8b"), looks := true }, kinds := [], alts := [], laidByText := true, laidKinds := [.data, .data, .data, .data, .pinned], laidTests := true, laidLooks := .later }
def CopiesBlamesUptoCardSaid : Prop := Claim7.holds Tryz.pinned (.plain (OpenSpec.upto copiesBlamesSpec)) copiesBlamesUptoCard

/-- THE SECOND FORM's CARD OF 'ephemeristlaw07.CopiesTrue'. -/
def copiesTrueUptoCard : Claim7 := { stood := { row := copiesTrueUptoRow, standIns := [], harness := (true, "097b3f2d4bf7b1990c1db747358a5df7783f0fc4cb834a8d8d9c2f9fabaaba8b"), looks := true }, kinds := [], alts := [], laidByText := true, laidKinds := [.data, .data, .data, .data, .pinned], laidTests := true, laidLooks := .later }
def CopiesTrueUptoCardSaid : Prop := Claim7.holds Tryz.pinned (.plain (OpenSpec.upto copiesTrueSpec)) copiesTrueUptoCard

/-- THE SECOND FORM's CARD OF 'ephemeristlaw07.CopiesNexts'. -/
def copiesNextsUptoCard : Claim7 := { stood := { row := copiesNextsUptoRow, standIns := [], harness := (true, "097b3f2d4bf7b1990c1db747358a5df7783f0fc4cb834a8d8d9c2f9fabaaba8b"), looks := true }, kinds := [], alts := [], laidByText := true, laidKinds := [.data, .data, .data, .data, .pinned], laidTests := true, laidLooks := .later }
def CopiesNextsUptoCardSaid : Prop := Claim7.holds Tryz.pinned (.plain (OpenSpec.upto copiesNextsSpec)) copiesNextsUptoCard

/-- THE SECOND FORM's CARD OF 'ephemeristlaw07.CopiesAsked'. -/
def copiesAskedUptoCard : Claim7 := { stood := { row := copiesAskedUptoRow, standIns := [], harness := (true, "097b3f2d4bf7b1990c1db747358a5df7783f0fc4cb834a8d8d9c2f9fabaaba8b"), looks := true }, kinds := [], alts := [], laidByText := true, laidKinds := [.data, .data, .data, .data, .pinned], laidTests := true, laidLooks := .later }
def CopiesAskedUptoCardSaid : Prop := Claim7.holds Tryz.pinned (.plain (OpenSpec.upto copiesAskedSpec)) copiesAskedUptoCard

/-- THE SECOND FORM's CARD OF 'ephemeristlaw07.CopiesSources'. -/
def copiesSourcesUptoCard : Claim7 := { stood := { row := copiesSourcesUptoRow, standIns := [], harness := (true, "097b3f2d4bf7b1990c1db747358a5df7783f0fc4cb834a8d8d9c2f9fabaaba8b"), looks := true }, kinds := [], alts := [], laidByText := true, laidKinds := [.data, .data, .data, .data, .pinned], laidTests := true, laidLooks := .later }
def CopiesSourcesUptoCardSaid : Prop := Claim7.holds Tryz.pinned (.plain (OpenSpec.upto copiesSourcesSpec)) copiesSourcesUptoCard

/-- THE SECOND FORM's CARD OF 'ephemeristlaw07.CopiesSourced'. -/
def copiesSourcedUptoCard : Claim7 := { stood := { row := copiesSourcedUptoRow, standIns := [], harness := (true, "097b3f2d4bf7b1990c1db747358a5df7783f0fc4cb834a8d8d9c2f9fabaaba8b"), looks := true }, kinds := [], alts := [], laidByText := true, laidKinds := [.data, .data, .data, .data, .pinned], laidTests := true, laidLooks := .later }
def CopiesSourcedUptoCardSaid : Prop := Claim7.holds Tryz.pinned (.plain (OpenSpec.upto copiesSourcedSpec)) copiesSourcedUptoCard
end Rows
end Go.Proofs.YtmkbnifehdhbbaaGreatDoor
