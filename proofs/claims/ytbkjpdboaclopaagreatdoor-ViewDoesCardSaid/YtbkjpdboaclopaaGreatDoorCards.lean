/-
  DERIVED. GIVEN WITH THE SEED: THE CARDS: each row of YtbkjpdboaclopaaGreatDoorRows.lean that lists a variable, with what it lists TIED to the program's text (the seventh form; the later family's looks); each row that meets fmt, with fmt's text TOLD by the authors' own Lean function (tested against real Go, not proved from fmt's source: count such statements apart). THE CARD IS WHAT COUNTS. Prove the row's statement (the work); the ties are given (YtbkjpdboaclopaaGreatDoorTie.lean); close each card by the builder's one call (the guide's Derived/Test/ToyasCard.lean, 'card_holds'). Laid BY PROGRAM, IN A SANDBOX (cutbox-door.mjs). By AI agents, Wed Nov 11 2026. No macro, syntax, notation, axiom, sorry.
-/
import Derived.Test.YtbkjpdboaclopaaGreatDoorRows
import GoSem.ClaimSeven
namespace Go.Proofs.YtbkjpdboaclopaaGreatDoor
namespace Rows

/-- THE TIED CARD OF 'millstreamlaw25.ViewDoes'. -/
def viewDoesCard : Claim7 := { stood := { row := viewDoesRow, standIns := [], harness := (true, "52780feea3bc8a5da2b1b83ea939f4e1c265595fb6357e7d297701c5cc16eff8"), looks := true }, kinds := [], alts := [], laidByText := true, laidKinds := [.data, .data, .data, .data, .sentinel, .sentinel, .pinned], laidTests := true, laidLooks := .later }
def ViewDoesCardSaid : Prop := Claim7.holds Tryz.pinned (.plain (OpenSpec.ofChange viewDoesSpec)) viewDoesCard

/-- THE TIED CARD OF 'millstreamlaw25.ViewKnown'. -/
def viewKnownCard : Claim7 := { stood := { row := viewKnownRow, standIns := [], harness := (true, "52780feea3bc8a5da2b1b83ea939f4e1c265595fb6357e7d297701c5cc16eff8"), looks := true }, kinds := [], alts := [], laidByText := true, laidKinds := [.data, .data, .data, .data, .sentinel, .sentinel, .pinned], laidTests := true, laidLooks := .later }
def ViewKnownCardSaid : Prop := Claim7.holds Tryz.pinned (.plain (OpenSpec.ofChange viewKnownSpec)) viewKnownCard

/-- THE SECOND FORM's CARD OF 'millstreamlaw25.ViewDoes'. -/
def viewDoesUptoCard : Claim7 := { stood := { row := viewDoesUptoRow, standIns := [], harness := (true, "52780feea3bc8a5da2b1b83ea939f4e1c265595fb6357e7d297701c5cc16eff8"), looks := true }, kinds := [], alts := [], laidByText := true, laidKinds := [.data, .data, .data, .data, .sentinel, .sentinel, .pinned], laidTests := true, laidLooks := .later }
def ViewDoesUptoCardSaid : Prop := Claim7.holds Tryz.pinned (.plain (OpenSpec.upto viewDoesSpec)) viewDoesUptoCard

/-- THE SECOND FORM's CARD OF 'millstreamlaw25.ViewKnown'. -/
def viewKnownUptoCard : Claim7 := { stood := { row := viewKnownUptoRow, standIns := [], harness := (true, "52780feea3bc8a5da2b1b83ea939f4e1c265595fb6357e7d297701c5cc16eff8"), looks := true }, kinds := [], alts := [], laidByText := true, laidKinds := [.data, .data, .data, .data, .sentinel, .sentinel, .pinned], laidTests := true, laidLooks := .later }
def ViewKnownUptoCardSaid : Prop := Claim7.holds Tryz.pinned (.plain (OpenSpec.upto viewKnownSpec)) viewKnownUptoCard
end Rows
end Go.Proofs.YtbkjpdboaclopaaGreatDoor
