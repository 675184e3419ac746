/-
  DERIVED. GIVEN WITH THE SEED: THE CARDS: each row of YtigblodhdfnleaaGreatDoorRows.lean that lists a variable, with what it lists TIED to the program's text (the seventh form; the later family's looks); each row that meets fmt, with fmt's text TOLD by the authors' own Lean function (tested against real Go, not proved from fmt's source: count such statements apart). THE CARD IS WHAT COUNTS. Prove the row's statement (the work); the ties are given (YtigblodhdfnleaaGreatDoorTie.lean); close each card by the builder's one call (the guide's Derived/Test/ToyasCard.lean, 'card_holds'). Laid BY PROGRAM, IN A SANDBOX (cutbox-door.mjs). By AI agents, Wed Nov 11 2026. No macro, syntax, notation, axiom, sorry.
-/
import Derived.Test.YtigblodhdfnleaaGreatDoorRows
import GoSem.ClaimSeven
namespace Go.Proofs.YtigblodhdfnleaaGreatDoor
namespace Rows

/-- THE TIED CARD OF 'corollarylaw13.EvalPaper'. -/
def evalPaperCard : Claim7 := { stood := { row := evalPaperRow, standIns := [], harness := (true, "3d210f8c58a5224ad25663e4b7fdd82fa91466542eb4c8bdedc732c15dae01c2"), looks := true }, kinds := [], alts := [], laidByText := true, laidKinds := [.data, .data, .data, .data, .sentinel, .sentinel, .pinned], laidTests := true, laidLooks := .later }
def EvalPaperCardSaid : Prop := Claim7.holds Tryz.pinned (.plain (OpenSpec.ofChange evalPaperSpec)) evalPaperCard

/-- THE TIED CARD OF 'corollarylaw13.EvalUnseen'. -/
def evalUnseenCard : Claim7 := { stood := { row := evalUnseenRow, standIns := [], harness := (true, "3d210f8c58a5224ad25663e4b7fdd82fa91466542eb4c8bdedc732c15dae01c2"), looks := true }, kinds := [], alts := [], laidByText := true, laidKinds := [.data, .data, .data, .data, .sentinel, .sentinel, .pinned], laidTests := true, laidLooks := .later }
def EvalUnseenCardSaid : Prop := Claim7.holds Tryz.pinned (.plain (OpenSpec.ofChange evalUnseenSpec)) evalUnseenCard

/-- THE SECOND FORM's CARD OF 'corollarylaw13.EvalPaper'. -/
def evalPaperUptoCard : Claim7 := { stood := { row := evalPaperUptoRow, standIns := [], harness := (true, "3d210f8c58a5224ad25663e4b7fdd82fa91466542eb4c8bdedc732c15dae01c2"), looks := true }, kinds := [], alts := [], laidByText := true, laidKinds := [.data, .data, .data, .data, .sentinel, .sentinel, .pinned], laidTests := true, laidLooks := .later }
def EvalPaperUptoCardSaid : Prop := Claim7.holds Tryz.pinned (.plain (OpenSpec.upto evalPaperSpec)) evalPaperUptoCard

/-- THE SECOND FORM's CARD OF 'corollarylaw13.EvalUnseen'. -/
def evalUnseenUptoCard : Claim7 := { stood := { row := evalUnseenUptoRow, standIns := [], harness := (true, "3d210f8c58a5224ad25663e4b7fdd82fa91466542eb4c8bdedc732c15dae01c2"), looks := true }, kinds := [], alts := [], laidByText := true, laidKinds := [.data, .data, .data, .data, .sentinel, .sentinel, .pinned], laidTests := true, laidLooks := .later }
def EvalUnseenUptoCardSaid : Prop := Claim7.holds Tryz.pinned (.plain (OpenSpec.upto evalUnseenSpec)) evalUnseenUptoCard
end Rows
end Go.Proofs.YtigblodhdfnleaaGreatDoor
