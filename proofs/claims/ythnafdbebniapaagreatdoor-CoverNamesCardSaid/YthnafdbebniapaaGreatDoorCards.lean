/-
  DERIVED. GIVEN WITH THE SEED: THE CARDS: each row of YthnafdbebniapaaGreatDoorRows.lean that lists a variable, with what it lists TIED to the program's text (the seventh form; the later family's looks); each row that meets fmt, with fmt's text TOLD by the authors' own Lean function (tested against real Go, not proved from fmt's source: count such statements apart). THE CARD IS WHAT COUNTS. Prove the row's statement (the work); the ties are given (YthnafdbebniapaaGreatDoorTie.lean); close each card by the builder's one call (the guide's Derived/Test/ToyasCard.lean, 'card_holds'). Laid BY PROGRAM, IN A SANDBOX (cutbox-door.mjs). By AI agents, Wed Nov 11 2026. No macro, syntax, notation, axiom, sorry.
-/
import Derived.Test.YthnafdbebniapaaGreatDoorRows
import GoSem.ClaimSeven
namespace Go.Proofs.YthnafdbebniapaaGreatDoor
namespace Rows

/-- THE TIED CARD OF 'corollarylaw12.CoverMatches'. -/
def coverMatchesCard : Claim7 := { stood := { row := coverMatchesRow, standIns := [], harness := (true, "b8ba7c0e0437c0ee2f78671dfab305464be2afc2761cf9ccfd2dbcf002f6d851"), looks := true }, kinds := [], alts := [], laidByText := true, laidKinds := [.data, .data, .data, .data, .handle, .pinned], laidTests := true, laidLooks := .later }
def CoverMatchesCardSaid : Prop := Claim7.holds Tryz.pinned (.plain (OpenSpec.ofChange coverMatchesSpec)) coverMatchesCard

/-- THE TIED CARD OF 'corollarylaw12.CoverFits'. -/
def coverFitsCard : Claim7 := { stood := { row := coverFitsRow, standIns := [], harness := (true, "b8ba7c0e0437c0ee2f78671dfab305464be2afc2761cf9ccfd2dbcf002f6d851"), looks := true }, kinds := [], alts := [], laidByText := true, laidKinds := [.data, .data, .data, .data, .handle, .pinned], laidTests := true, laidLooks := .later }
def CoverFitsCardSaid : Prop := Claim7.holds Tryz.pinned (.plain (OpenSpec.ofChange coverFitsSpec)) coverFitsCard

/-- THE TIED CARD OF 'corollarylaw12.CoverBound'. -/
def coverBoundCard : Claim7 := { stood := { row := coverBoundRow, standIns := [], harness := (true, "b8ba7c0e0437c0ee2f78671dfab305464be2afc2761cf9ccfd2dbcf002f6d851"), looks := true }, kinds := [], alts := [], laidByText := true, laidKinds := [.data, .data, .data, .data, .handle, .pinned], laidTests := true, laidLooks := .later }
def CoverBoundCardSaid : Prop := Claim7.holds Tryz.pinned (.plain (OpenSpec.ofChange coverBoundSpec)) coverBoundCard

/-- THE TIED CARD OF 'corollarylaw12.CoverNames'. -/
def coverNamesCard : Claim7 := { stood := { row := coverNamesRow, standIns := [], harness := (true, "b8ba7c0e0437c0ee2f78671dfab305464be2afc2761cf9ccfd2dbcf002f6d851"), looks := true }, kinds := [], alts := [], laidByText := true, laidKinds := [.data, .data, .data, .data, .handle, .pinned], laidTests := true, laidLooks := .later }
def CoverNamesCardSaid : Prop := Claim7.holds Tryz.pinned (.plain (OpenSpec.ofChange coverNamesSpec)) coverNamesCard

/-- THE TIED CARD OF 'corollarylaw12.CoverFewer'. -/
def coverFewerCard : Claim7 := { stood := { row := coverFewerRow, standIns := [], harness := (true, "b8ba7c0e0437c0ee2f78671dfab305464be2afc2761cf9ccfd2dbcf002f6d851"), looks := true }, kinds := [], alts := [], laidByText := true, laidKinds := [.data, .data, .data, .data, .handle, .pinned], laidTests := true, laidLooks := .later }
def CoverFewerCardSaid : Prop := Claim7.holds Tryz.pinned (.plain (OpenSpec.ofChange coverFewerSpec)) coverFewerCard

/-- THE TIED CARD OF 'corollarylaw12.CoverMore'. -/
def coverMoreCard : Claim7 := { stood := { row := coverMoreRow, standIns := [], harness := (true, "b8ba7c0e0437c0ee2f78671dfab305464be2afc2761cf9ccfd2dbcf002f6d851"), looks := true }, kinds := [], alts := [], laidByText := true, laidKinds := [.data, .data, .data, .data, .handle, .pinned], laidTests := true, laidLooks := .later }
def CoverMoreCardSaid : Prop := Claim7.holds Tryz.pinned (.plain (OpenSpec.ofChange coverMoreSpec)) coverMoreCard

/-- THE SECOND FORM's CARD OF 'corollarylaw12.CoverMatches'. -/
def coverMatchesUptoCard : Claim7 := { stood := { row := coverMatchesUptoRow, standIns := [], harness := (true, "b8ba7c0e0437c0ee2f78671dfab305464be2afc2761cf9ccfd2dbcf002f6d851"), looks := true }, kinds := [], alts := [], laidByText := true, laidKinds := [.data, .data, .data, .data, .handle, .pinned], laidTests := true, laidLooks := .later }
def CoverMatchesUptoCardSaid : Prop := Claim7.holds Tryz.pinned (.plain (OpenSpec.upto coverMatchesSpec)) coverMatchesUptoCard

/-- THE SECOND FORM's CARD OF 'corollarylaw12.CoverFits'. -/
def coverFitsUptoCard : Claim7 := { stood := { row := coverFitsUptoRow, standIns := [], harness := (true, "b8ba7c0e0437c0ee2f78671dfab305464be2afc2761cf9ccfd2dbcf002f6d851"), looks := true }, kinds := [], alts := [], laidByText := true, laidKinds := [.data, .data, .data, .data, .handle, .pinned], laidTests := true, laidLooks := .later }
def CoverFitsUptoCardSaid : Prop := Claim7.holds Tryz.pinned (.plain (OpenSpec.upto coverFitsSpec)) coverFitsUptoCard

/-- THE SECOND FORM's CARD OF 'corollarylaw12.CoverBound'. -/
def coverBoundUptoCard : Claim7 := { stood := { row := coverBoundUptoRow, standIns := [], harness := (true, "b8ba7c0e0437c0ee2f78671dfab305464be2afc2761cf9ccfd2dbcf002f6d851"), looks := true }, kinds := [], alts := [], laidByText := true, laidKinds := [.data, .data, .data, .data, .handle, .pinned], laidTests := true, laidLooks := .later }
def CoverBoundUptoCardSaid : Prop := Claim7.holds Tryz.pinned (.plain (OpenSpec.upto coverBoundSpec)) coverBoundUptoCard

/-- THE SECOND FORM's CARD OF 'corollarylaw12.CoverNames'. -/
def coverNamesUptoCard : Claim7 := { stood := { row := coverNamesUptoRow, standIns := [], harness := (true, "b8ba7c0e0437c0ee2f78671dfab305464be2afc2761cf9ccfd2dbcf002f6d851"), looks := true }, kinds := [], alts := [], laidByText := true, laidKinds := [.data, .data, .data, .data, .handle, .pinned], laidTests := true, laidLooks := .later }
def CoverNamesUptoCardSaid : Prop := Claim7.holds Tryz.pinned (.plain (OpenSpec.upto coverNamesSpec)) coverNamesUptoCard

/-- THE SECOND FORM's CARD OF 'corollarylaw12.CoverFewer'. -/
def coverFewerUptoCard : Claim7 := { stood := { row := coverFewerUptoRow, standIns := [], harness := (true, "b8ba7c0e0437c0ee2f78671dfab305464be2afc2761cf9ccfd2dbcf002f6d851"), looks := true }, kinds := [], alts := [], laidByText := true, laidKinds := [.data, .data, .data, .data, .handle, .pinned], laidTests := true, laidLooks := .later }
def CoverFewerUptoCardSaid : Prop := Claim7.holds Tryz.pinned (.plain (OpenSpec.upto coverFewerSpec)) coverFewerUptoCard

/-- THE SECOND FORM's CARD OF 'corollarylaw12.CoverMore'. -/
def coverMoreUptoCard : Claim7 := { stood := { row := coverMoreUptoRow, standIns := [], harness := (true, "b8ba7c0e0437c0ee2f78671dfab305464be2afc2761cf9ccfd2dbcf002f6d851"), looks := true }, kinds := [], alts := [], laidByText := true, laidKinds := [.data, .data, .data, .data, .handle, .pinned], laidTests := true, laidLooks := .later }
def CoverMoreUptoCardSaid : Prop := Claim7.holds Tryz.pinned (.plain (OpenSpec.upto coverMoreSpec)) coverMoreUptoCard
end Rows
end Go.Proofs.YthnafdbebniapaaGreatDoor
