/-
  DERIVED. GIVEN WITH THE SEED: THE CARDS: each row of YtoaodbclgeeaeaaGreatDoorRows.lean that lists a variable, with what it lists TIED to the program's text (the seventh form; the later family's looks); each row that meets fmt, with fmt's text TOLD by the authors' own Lean function (tested against real Go, not proved from fmt's source: count such statements apart). THE CARD IS WHAT COUNTS. Prove the row's statement (the work); the ties are given (YtoaodbclgeeaeaaGreatDoorTie.lean); close each card by the builder's one call (the guide's Derived/Test/ToyasCard.lean, 'card_holds'). Laid BY PROGRAM, IN A SANDBOX (cutbox-door.mjs). By AI agents, Wed Nov 11 2026. No macro, syntax, notation, axiom, sorry.
-/
import Derived.Test.YtoaodbclgeeaeaaGreatDoorRows
import GoSem.ClaimSeven
namespace Go.Proofs.YtoaodbclgeeaeaaGreatDoor
namespace Rows

/-- THE TIED CARD OF 'corollarylaw10.DeclPuts'. -/
def declPutsCard : Claim7 := { stood := { row := declPutsRow, standIns := [], harness := (true, "ab4eeaa34cdb2cb770ca5d8d83f3a312a47b50191a1cc92634d15deb17debd54"), looks := true }, kinds := [], alts := [], laidByText := true, laidKinds := [.data, .handle, .pinned], laidTests := true, laidLooks := .later }
def DeclPutsCardSaid : Prop := Claim7.holds Tryz.pinned (.plain (OpenSpec.ofChange declPutsSpec)) declPutsCard

/-- THE TIED CARD OF 'corollarylaw10.DeclApart'. -/
def declApartCard : Claim7 := { stood := { row := declApartRow, standIns := [], harness := (true, "ab4eeaa34cdb2cb770ca5d8d83f3a312a47b50191a1cc92634d15deb17debd54"), looks := true }, kinds := [], alts := [], laidByText := true, laidKinds := [.data, .handle, .pinned], laidTests := true, laidLooks := .later }
def DeclApartCardSaid : Prop := Claim7.holds Tryz.pinned (.plain (OpenSpec.ofChange declApartSpec)) declApartCard

/-- THE TIED CARD OF 'corollarylaw10.DeclNames'. -/
def declNamesCard : Claim7 := { stood := { row := declNamesRow, standIns := [], harness := (true, "ab4eeaa34cdb2cb770ca5d8d83f3a312a47b50191a1cc92634d15deb17debd54"), looks := true }, kinds := [], alts := [], laidByText := true, laidKinds := [.data, .handle, .pinned], laidTests := true, laidLooks := .later }
def DeclNamesCardSaid : Prop := Claim7.holds Tryz.pinned (.plain (OpenSpec.ofChange declNamesSpec)) declNamesCard

/-- THE TIED CARD OF 'corollarylaw10.DeclOthers'. -/
def declOthersCard : Claim7 := { stood := { row := declOthersRow, standIns := [], harness := (true, "ab4eeaa34cdb2cb770ca5d8d83f3a312a47b50191a1cc92634d15deb17debd54"), looks := true }, kinds := [], alts := [], laidByText := true, laidKinds := [.data, .handle, .pinned], laidTests := true, laidLooks := .later }
def DeclOthersCardSaid : Prop := Claim7.holds Tryz.pinned (.plain (OpenSpec.ofChange declOthersSpec)) declOthersCard

/-- THE SECOND FORM's CARD OF 'corollarylaw10.DeclPuts'. -/
def declPutsUptoCard : Claim7 := { stood := { row := declPutsUptoRow, standIns := [], harness := (true, "ab4eeaa34cdb2cb770ca5d8d83f3a312a47b50191a1cc92634d15deb17debd54"), looks := true }, kinds := [], alts := [], laidByText := true, laidKinds := [.data, .handle, .pinned], laidTests := true, laidLooks := .later }
def DeclPutsUptoCardSaid : Prop := Claim7.holds Tryz.pinned (.plain (OpenSpec.upto declPutsSpec)) declPutsUptoCard

/-- THE SECOND FORM's CARD OF 'corollarylaw10.DeclApart'. -/
def declApartUptoCard : Claim7 := { stood := { row := declApartUptoRow, standIns := [], harness := (true, "ab4eeaa34cdb2cb770ca5d8d83f3a312a47b50191a1cc92634d15deb17debd54"), looks := true }, kinds := [], alts := [], laidByText := true, laidKinds := [.data, .handle, .pinned], laidTests := true, laidLooks := .later }
def DeclApartUptoCardSaid : Prop := Claim7.holds Tryz.pinned (.plain (OpenSpec.upto declApartSpec)) declApartUptoCard

/-- THE SECOND FORM's CARD OF 'corollarylaw10.DeclNames'. -/
def declNamesUptoCard : Claim7 := { stood := { row := declNamesUptoRow, standIns := [], harness := (true, "ab4eeaa34cdb2cb770ca5d8d83f3a312a47b50191a1cc92634d15deb17debd54"), looks := true }, kinds := [], alts := [], laidByText := true, laidKinds := [.data, .handle, .pinned], laidTests := true, laidLooks := .later }
def DeclNamesUptoCardSaid : Prop := Claim7.holds Tryz.pinned (.plain (OpenSpec.upto declNamesSpec)) declNamesUptoCard

/-- THE SECOND FORM's CARD OF 'corollarylaw10.DeclOthers'. -/
def declOthersUptoCard : Claim7 := { stood := { row := declOthersUptoRow, standIns := [], harness := (true, "ab4eeaa34cdb2cb770ca5d8d83f3a312a47b50191a1cc92634d15deb17debd54"), looks := true }, kinds := [], alts := [], laidByText := true, laidKinds := [.data, .handle, .pinned], laidTests := true, laidLooks := .later }
def DeclOthersUptoCardSaid : Prop := Claim7.holds Tryz.pinned (.plain (OpenSpec.upto declOthersSpec)) declOthersUptoCard
end Rows
end Go.Proofs.YtoaodbclgeeaeaaGreatDoor
