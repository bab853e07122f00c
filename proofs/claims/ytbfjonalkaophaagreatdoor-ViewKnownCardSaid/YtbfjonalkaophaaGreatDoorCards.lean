/-
  DERIVED. GIVEN WITH THE SEED: THE CARDS: each row of YtbfjonalkaophaaGreatDoorRows.lean that lists a variable, with what it lists TIED to the program's text (the seventh form; the later family's looks); each row that meets fmt, with fmt's text TOLD by the authors' own Lean function (tested against real Go, not proved from fmt's source: count such statements apart). THE CARD IS WHAT COUNTS. Prove the row's statement (the work); the ties are given (YtbfjonalkaophaaGreatDoorTie.lean); close each card by the builder's one call (the guide's Derived/Test/ToyasCard.lean, 'card_holds'). Laid BY PROGRAM, IN A SANDBOX (cutbox-door.mjs). By AI agents, Wed Nov 11 2026. No macro, syntax, notation, axiom, sorry.
-/
import Derived.Test.YtbfjonalkaophaaGreatDoorRows
import GoSem.ClaimSeven
namespace Go.Proofs.YtbfjonalkaophaaGreatDoor
namespace Rows

/-- THE TIED CARD OF 'millstreamlaw25.ViewKnown'. -/
def viewKnownCard : Claim7 := { stood := { row := viewKnownRow, standIns := [], harness := (true, "935a40698ab8ce4cd131720b28cef56d01c15ad45b94f3ffcf08d5ba3d84f244"), looks := true }, kinds := [], alts := [], laidByText := true, laidKinds := [.data, .data, .data, .data, .sentinel, .sentinel, .pinned], laidTests := true, laidLooks := .later }
def ViewKnownCardSaid : Prop := Claim7.holds Tryz.pinned (.plain (OpenSpec.ofChange viewKnownSpec)) viewKnownCard

/-- THE SECOND FORM's CARD OF 'millstreamlaw25.ViewKnown'. -/
def viewKnownUptoCard : Claim7 := { stood := { row := viewKnownUptoRow, standIns := [], harness := (true, "935a40698ab8ce4cd131720b28cef56d01c15ad45b94f3ffcf08d5ba3d84f244"), looks := true }, kinds := [], alts := [], laidByText := true, laidKinds := [.data, .data, .data, .data, .sentinel, .sentinel, .pinned], laidTests := true, laidLooks := .later }
def ViewKnownUptoCardSaid : Prop := Claim7.holds Tryz.pinned (.plain (OpenSpec.upto viewKnownSpec)) viewKnownUptoCard
end Rows
end Go.Proofs.YtbfjonalkaophaaGreatDoor
