/-
  DERIVED. GIVEN WITH THE SEED: THE CARDS: each row of YtbhipiepfclneaaGreatDoorRows.lean that lists a variable, with what it lists TIED to the program's text (the seventh form; the later family's looks); each row that meets fmt, with fmt's text TOLD by the authors' own Lean function (tested against real Go, not proved from fmt's source: count such statements apart). THE CARD IS WHAT COUNTS. Prove the row's statement (the work); the ties are given (YtbhipiepfclneaaGreatDoorTie.lean); close each card by the builder's one call (the guide's Derived/Test/ToyasCard.lean, 'card_holds'). Laid BY PROGRAM, IN A SANDBOX (cutbox-door.mjs). By AI agents, Wed Nov 11 2026. No macro, syntax, notation, axiom, sorry.
-/
import Derived.Test.YtbhipiepfclneaaGreatDoorRows
import GoSem.ClaimSeven
namespace Go.Proofs.YtbhipiepfclneaaGreatDoor
namespace Rows

/-- THE TIED CARD OF 'corollarylaw22.GroupOrder'. -/
def groupOrderCard : Claim7 := { stood := { row := groupOrderRow, standIns := [], harness := (true, "70d00a3e3898ed99f49b96e4838a907596aa9e521fec1b1b66df0725fa784dd6"), looks := true }, kinds := [], alts := [], laidByText := true, laidKinds := [.data, .data, .data, .data, .sentinel, .sentinel, .pinned], laidTests := true, laidLooks := .later }
def GroupOrderCardSaid : Prop := Claim7.holds Tryz.pinned (.plain (OpenSpec.ofChange groupOrderSpec)) groupOrderCard

/-- THE TIED CARD OF 'corollarylaw22.GroupHalves'. -/
def groupHalvesCard : Claim7 := { stood := { row := groupHalvesRow, standIns := [], harness := (true, "70d00a3e3898ed99f49b96e4838a907596aa9e521fec1b1b66df0725fa784dd6"), looks := true }, kinds := [], alts := [], laidByText := true, laidKinds := [.data, .data, .data, .data, .sentinel, .sentinel, .pinned], laidTests := true, laidLooks := .later }
def GroupHalvesCardSaid : Prop := Claim7.holds Tryz.pinned (.plain (OpenSpec.ofChange groupHalvesSpec)) groupHalvesCard

/-- THE TIED CARD OF 'corollarylaw22.GroupPlays'. -/
def groupPlaysCard : Claim7 := { stood := { row := groupPlaysRow, standIns := [], harness := (true, "70d00a3e3898ed99f49b96e4838a907596aa9e521fec1b1b66df0725fa784dd6"), looks := true }, kinds := [], alts := [], laidByText := true, laidKinds := [.data, .data, .data, .data, .sentinel, .sentinel, .pinned], laidTests := true, laidLooks := .later }
def GroupPlaysCardSaid : Prop := Claim7.holds Tryz.pinned (.plain (OpenSpec.ofChange groupPlaysSpec)) groupPlaysCard

/-- THE TIED CARD OF 'corollarylaw22.GroupNames'. -/
def groupNamesCard : Claim7 := { stood := { row := groupNamesRow, standIns := [], harness := (true, "70d00a3e3898ed99f49b96e4838a907596aa9e521fec1b1b66df0725fa784dd6"), looks := true }, kinds := [], alts := [], laidByText := true, laidKinds := [.data, .data, .data, .data, .sentinel, .sentinel, .pinned], laidTests := true, laidLooks := .later }
def GroupNamesCardSaid : Prop := Claim7.holds Tryz.pinned (.plain (OpenSpec.ofChange groupNamesSpec)) groupNamesCard

/-- THE SECOND FORM's CARD OF 'corollarylaw22.GroupOrder'. -/
def groupOrderUptoCard : Claim7 := { stood := { row := groupOrderUptoRow, standIns := [], harness := (true, "70d00a3e3898ed99f49b96e4838a907596aa9e521fec1b1b66df0725fa784dd6"), looks := true }, kinds := [], alts := [], laidByText := true, laidKinds := [.data, .data, .data, .data, .sentinel, .sentinel, .pinned], laidTests := true, laidLooks := .later }
def GroupOrderUptoCardSaid : Prop := Claim7.holds Tryz.pinned (.plain (OpenSpec.upto groupOrderSpec)) groupOrderUptoCard

/-- THE SECOND FORM's CARD OF 'corollarylaw22.GroupHalves'. -/
def groupHalvesUptoCard : Claim7 := { stood := { row := groupHalvesUptoRow, standIns := [], harness := (true, "70d00a3e3898ed99f49b96e4838a907596aa9e521fec1b1b66df0725fa784dd6"), looks := true }, kinds := [], alts := [], laidByText := true, laidKinds := [.data, .data, .data, .data, .sentinel, .sentinel, .pinned], laidTests := true, laidLooks := .later }
def GroupHalvesUptoCardSaid : Prop := Claim7.holds Tryz.pinned (.plain (OpenSpec.upto groupHalvesSpec)) groupHalvesUptoCard

/-- THE SECOND FORM's CARD OF 'corollarylaw22.GroupPlays'. -/
def groupPlaysUptoCard : Claim7 := { stood := { row := groupPlaysUptoRow, standIns := [], harness := (true, "70d00a3e3898ed99f49b96e4838a907596aa9e521fec1b1b66df0725fa784dd6"), looks := true }, kinds := [], alts := [], laidByText := true, laidKinds := [.data, .data, .data, .data, .sentinel, .sentinel, .pinned], laidTests := true, laidLooks := .later }
def GroupPlaysUptoCardSaid : Prop := Claim7.holds Tryz.pinned (.plain (OpenSpec.upto groupPlaysSpec)) groupPlaysUptoCard

/-- THE SECOND FORM's CARD OF 'corollarylaw22.GroupNames'. -/
def groupNamesUptoCard : Claim7 := { stood := { row := groupNamesUptoRow, standIns := [], harness := (true, "70d00a3e3898ed99f49b96e4838a907596aa9e521fec1b1b66df0725fa784dd6"), looks := true }, kinds := [], alts := [], laidByText := true, laidKinds := [.data, .data, .data, .data, .sentinel, .sentinel, .pinned], laidTests := true, laidLooks := .later }
def GroupNamesUptoCardSaid : Prop := Claim7.holds Tryz.pinned (.plain (OpenSpec.upto groupNamesSpec)) groupNamesUptoCard
end Rows
end Go.Proofs.YtbhipiepfclneaaGreatDoor
