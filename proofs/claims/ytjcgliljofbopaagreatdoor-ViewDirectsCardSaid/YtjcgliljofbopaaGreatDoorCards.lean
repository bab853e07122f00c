/-
  DERIVED. GIVEN WITH THE SEED: THE CARDS: each row of YtjcgliljofbopaaGreatDoorRows.lean that lists a variable, with what it lists TIED to the program's text (the seventh form; the later family's looks); each row that meets fmt, with fmt's text TOLD by the authors' own Lean function (tested against real Go, not proved from fmt's source: count such statements apart). THE CARD IS WHAT COUNTS. Prove the row's statement (the work); the ties are given (YtjcgliljofbopaaGreatDoorTie.lean); close each card by the builder's one call (the guide's Derived/Test/ToyasCard.lean, 'card_holds'). Laid BY PROGRAM, IN A SANDBOX (cutbox-door.mjs). By AI agents, Wed Nov 11 2026. No macro, syntax, notation, axiom, sorry.
-/
import Derived.Test.YtjcgliljofbopaaGreatDoorRows
import GoSem.ClaimSeven
namespace Go.Proofs.YtjcgliljofbopaaGreatDoor
namespace Rows

/-- THE TIED CARD OF 'millstreamlaw25.ViewDirects'. -/
def viewDirectsCard : Claim7 := { stood := { row := viewDirectsRow, standIns := [], harness := (true, "95139a18581ac53840fad28d0999505c1e547928950cd90450e09999d955a387"), looks := true }, kinds := [], alts := [], laidByText := true, laidKinds := [.data, .data, .data, .data, .sentinel, .sentinel, .pinned], laidTests := true, laidLooks := .later }
def ViewDirectsCardSaid : Prop := Claim7.holds Tryz.pinned (.plain (OpenSpec.ofChange viewDirectsSpec)) viewDirectsCard

/-- THE SECOND FORM's CARD OF 'millstreamlaw25.ViewDirects'. -/
def viewDirectsUptoCard : Claim7 := { stood := { row := viewDirectsUptoRow, standIns := [], harness := (true, "95139a18581ac53840fad28d0999505c1e547928950cd90450e09999d955a387"), looks := true }, kinds := [], alts := [], laidByText := true, laidKinds := [.data, .data, .data, .data, .sentinel, .sentinel, .pinned], laidTests := true, laidLooks := .later }
def ViewDirectsUptoCardSaid : Prop := Claim7.holds Tryz.pinned (.plain (OpenSpec.upto viewDirectsSpec)) viewDirectsUptoCard
end Rows
end Go.Proofs.YtjcgliljofbopaaGreatDoor
