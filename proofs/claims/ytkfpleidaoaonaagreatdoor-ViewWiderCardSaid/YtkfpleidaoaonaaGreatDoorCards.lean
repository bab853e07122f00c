/-
  DERIVED. GIVEN WITH THE SEED: THE CARDS: each row of YtkfpleidaoaonaaGreatDoorRows.lean that lists a variable, with what it lists TIED to the program's text (the seventh form; the later family's looks); each row that meets fmt, with fmt's text TOLD by the authors' own Lean function (tested against real Go, not proved from fmt's source: count such statements apart). THE CARD IS WHAT COUNTS. Prove the row's statement (the work); the ties are given (YtkfpleidaoaonaaGreatDoorTie.lean); close each card by the builder's one call (the guide's Derived/Test/ToyasCard.lean, 'card_holds'). Laid BY PROGRAM, IN A SANDBOX (cutbox-door.mjs). By AI agents, Wed Nov 11 2026. No macro, syntax, notation, axiom, sorry.
-/
import Derived.Test.YtkfpleidaoaonaaGreatDoorRows
import GoSem.ClaimSeven
namespace Go.Proofs.YtkfpleidaoaonaaGreatDoor
namespace Rows

/-- THE TIED CARD OF 'millstreamlaw25.ViewDirects'. -/
def viewDirectsCard : Claim7 := { stood := { row := viewDirectsRow, standIns := [], harness := (true, "a4f4e1d873143a65eac3f1390d82364d262e32bb347194823c2957669f2f8dfd"), looks := true }, kinds := [], alts := [], laidByText := true, laidKinds := [.data, .data, .data, .data, .sentinel, .sentinel, .pinned], laidTests := true, laidLooks := .later }
def ViewDirectsCardSaid : Prop := Claim7.holds Tryz.pinned (.plain (OpenSpec.ofChange viewDirectsSpec)) viewDirectsCard

/-- THE TIED CARD OF 'millstreamlaw25.ViewDoes'. -/
def viewDoesCard : Claim7 := { stood := { row := viewDoesRow, standIns := [], harness := (true, "a4f4e1d873143a65eac3f1390d82364d262e32bb347194823c2957669f2f8dfd"), looks := true }, kinds := [], alts := [], laidByText := true, laidKinds := [.data, .data, .data, .data, .sentinel, .sentinel, .pinned], laidTests := true, laidLooks := .later }
def ViewDoesCardSaid : Prop := Claim7.holds Tryz.pinned (.plain (OpenSpec.ofChange viewDoesSpec)) viewDoesCard

/-- THE TIED CARD OF 'millstreamlaw25.ViewNone'. -/
def viewNoneCard : Claim7 := { stood := { row := viewNoneRow, standIns := [], harness := (true, "a4f4e1d873143a65eac3f1390d82364d262e32bb347194823c2957669f2f8dfd"), looks := true }, kinds := [], alts := [], laidByText := true, laidKinds := [.data, .data, .data, .data, .sentinel, .sentinel, .pinned], laidTests := true, laidLooks := .later }
def ViewNoneCardSaid : Prop := Claim7.holds Tryz.pinned (.plain (OpenSpec.ofChange viewNoneSpec)) viewNoneCard

/-- THE TIED CARD OF 'millstreamlaw25.ViewDelta'. -/
def viewDeltaCard : Claim7 := { stood := { row := viewDeltaRow, standIns := [], harness := (true, "a4f4e1d873143a65eac3f1390d82364d262e32bb347194823c2957669f2f8dfd"), looks := true }, kinds := [], alts := [], laidByText := true, laidKinds := [.data, .data, .data, .data, .sentinel, .sentinel, .pinned], laidTests := true, laidLooks := .later }
def ViewDeltaCardSaid : Prop := Claim7.holds Tryz.pinned (.plain (OpenSpec.ofChange viewDeltaSpec)) viewDeltaCard

/-- THE TIED CARD OF 'millstreamlaw25.ViewOnce'. -/
def viewOnceCard : Claim7 := { stood := { row := viewOnceRow, standIns := [], harness := (true, "a4f4e1d873143a65eac3f1390d82364d262e32bb347194823c2957669f2f8dfd"), looks := true }, kinds := [], alts := [], laidByText := true, laidKinds := [.data, .data, .data, .data, .sentinel, .sentinel, .pinned], laidTests := true, laidLooks := .later }
def ViewOnceCardSaid : Prop := Claim7.holds Tryz.pinned (.plain (OpenSpec.ofChange viewOnceSpec)) viewOnceCard

/-- THE TIED CARD OF 'millstreamlaw25.ViewBack'. -/
def viewBackCard : Claim7 := { stood := { row := viewBackRow, standIns := [], harness := (true, "a4f4e1d873143a65eac3f1390d82364d262e32bb347194823c2957669f2f8dfd"), looks := true }, kinds := [], alts := [], laidByText := true, laidKinds := [.data, .data, .data, .data, .sentinel, .sentinel, .pinned], laidTests := true, laidLooks := .later }
def ViewBackCardSaid : Prop := Claim7.holds Tryz.pinned (.plain (OpenSpec.ofChange viewBackSpec)) viewBackCard

/-- THE TIED CARD OF 'millstreamlaw25.ViewAdds'. -/
def viewAddsCard : Claim7 := { stood := { row := viewAddsRow, standIns := [], harness := (true, "a4f4e1d873143a65eac3f1390d82364d262e32bb347194823c2957669f2f8dfd"), looks := true }, kinds := [], alts := [], laidByText := true, laidKinds := [.data, .data, .data, .data, .sentinel, .sentinel, .pinned], laidTests := true, laidLooks := .later }
def ViewAddsCardSaid : Prop := Claim7.holds Tryz.pinned (.plain (OpenSpec.ofChange viewAddsSpec)) viewAddsCard

/-- THE TIED CARD OF 'millstreamlaw25.ViewWider'. -/
def viewWiderCard : Claim7 := { stood := { row := viewWiderRow, standIns := [], harness := (true, "a4f4e1d873143a65eac3f1390d82364d262e32bb347194823c2957669f2f8dfd"), looks := true }, kinds := [], alts := [], laidByText := true, laidKinds := [.data, .data, .data, .data, .sentinel, .sentinel, .pinned], laidTests := true, laidLooks := .later }
def ViewWiderCardSaid : Prop := Claim7.holds Tryz.pinned (.plain (OpenSpec.ofChange viewWiderSpec)) viewWiderCard

/-- THE TIED CARD OF 'millstreamlaw25.ViewKnown'. -/
def viewKnownCard : Claim7 := { stood := { row := viewKnownRow, standIns := [], harness := (true, "a4f4e1d873143a65eac3f1390d82364d262e32bb347194823c2957669f2f8dfd"), looks := true }, kinds := [], alts := [], laidByText := true, laidKinds := [.data, .data, .data, .data, .sentinel, .sentinel, .pinned], laidTests := true, laidLooks := .later }
def ViewKnownCardSaid : Prop := Claim7.holds Tryz.pinned (.plain (OpenSpec.ofChange viewKnownSpec)) viewKnownCard

/-- THE SECOND FORM's CARD OF 'millstreamlaw25.ViewDirects'. -/
def viewDirectsUptoCard : Claim7 := { stood := { row := viewDirectsUptoRow, standIns := [], harness := (true, "a4f4e1d873143a65eac3f1390d82364d262e32bb347194823c2957669f2f8dfd"), looks := true }, kinds := [], alts := [], laidByText := true, laidKinds := [.data, .data, .data, .data, .sentinel, .sentinel, .pinned], laidTests := true, laidLooks := .later }
def ViewDirectsUptoCardSaid : Prop := Claim7.holds Tryz.pinned (.plain (OpenSpec.upto viewDirectsSpec)) viewDirectsUptoCard

/-- THE SECOND FORM's CARD OF 'millstreamlaw25.ViewDoes'. -/
def viewDoesUptoCard : Claim7 := { stood := { row := viewDoesUptoRow, standIns := [], harness := (true, "a4f4e1d873143a65eac3f1390d82364d262e32bb347194823c2957669f2f8dfd"), looks := true }, kinds := [], alts := [], laidByText := true, laidKinds := [.data, .data, .data, .data, .sentinel, .sentinel, .pinned], laidTests := true, laidLooks := .later }
def ViewDoesUptoCardSaid : Prop := Claim7.holds Tryz.pinned (.plain (OpenSpec.upto viewDoesSpec)) viewDoesUptoCard

/-- THE SECOND FORM's CARD OF 'millstreamlaw25.ViewNone'. -/
def viewNoneUptoCard : Claim7 := { stood := { row := viewNoneUptoRow, standIns := [], harness := (true, "a4f4e1d873143a65eac3f1390d82364d262e32bb347194823c2957669f2f8dfd"), looks := true }, kinds := [], alts := [], laidByText := true, laidKinds := [.data, .data, .data, .data, .sentinel, .sentinel, .pinned], laidTests := true, laidLooks := .later }
def ViewNoneUptoCardSaid : Prop := Claim7.holds Tryz.pinned (.plain (OpenSpec.upto viewNoneSpec)) viewNoneUptoCard

/-- THE SECOND FORM's CARD OF 'millstreamlaw25.ViewDelta'. -/
def viewDeltaUptoCard : Claim7 := { stood := { row := viewDeltaUptoRow, standIns := [], harness := (true, "a4f4e1d873143a65eac3f1390d82364d262e32bb347194823c2957669f2f8dfd"), looks := true }, kinds := [], alts := [], laidByText := true, laidKinds := [.data, .data, .data, .data, .sentinel, .sentinel, .pinned], laidTests := true, laidLooks := .later }
def ViewDeltaUptoCardSaid : Prop := Claim7.holds Tryz.pinned (.plain (OpenSpec.upto viewDeltaSpec)) viewDeltaUptoCard

/-- THE SECOND FORM's CARD OF 'millstreamlaw25.ViewOnce'. -/
def viewOnceUptoCard : Claim7 := { stood := { row := viewOnceUptoRow, standIns := [], harness := (true, "a4f4e1d873143a65eac3f1390d82364d262e32bb347194823c2957669f2f8dfd"), looks := true }, kinds := [], alts := [], laidByText := true, laidKinds := [.data, .data, .data, .data, .sentinel, .sentinel, .pinned], laidTests := true, laidLooks := .later }
def ViewOnceUptoCardSaid : Prop := Claim7.holds Tryz.pinned (.plain (OpenSpec.upto viewOnceSpec)) viewOnceUptoCard

/-- THE SECOND FORM's CARD OF 'millstreamlaw25.ViewBack'. -/
def viewBackUptoCard : Claim7 := { stood := { row := viewBackUptoRow, standIns := [], harness := (true, "a4f4e1d873143a65eac3f1390d82364d262e32bb347194823c2957669f2f8dfd"), looks := true }, kinds := [], alts := [], laidByText := true, laidKinds := [.data, .data, .data, .data, .sentinel, .sentinel, .pinned], laidTests := true, laidLooks := .later }
def ViewBackUptoCardSaid : Prop := Claim7.holds Tryz.pinned (.plain (OpenSpec.upto viewBackSpec)) viewBackUptoCard

/-- THE SECOND FORM's CARD OF 'millstreamlaw25.ViewAdds'. -/
def viewAddsUptoCard : Claim7 := { stood := { row := viewAddsUptoRow, standIns := [], harness := (true, "a4f4e1d873143a65eac3f1390d82364d262e32bb347194823c2957669f2f8dfd"), looks := true }, kinds := [], alts := [], laidByText := true, laidKinds := [.data, .data, .data, .data, .sentinel, .sentinel, .pinned], laidTests := true, laidLooks := .later }
def ViewAddsUptoCardSaid : Prop := Claim7.holds Tryz.pinned (.plain (OpenSpec.upto viewAddsSpec)) viewAddsUptoCard

/-- THE SECOND FORM's CARD OF 'millstreamlaw25.ViewWider'. -/
def viewWiderUptoCard : Claim7 := { stood := { row := viewWiderUptoRow, standIns := [], harness := (true, "a4f4e1d873143a65eac3f1390d82364d262e32bb347194823c2957669f2f8dfd"), looks := true }, kinds := [], alts := [], laidByText := true, laidKinds := [.data, .data, .data, .data, .sentinel, .sentinel, .pinned], laidTests := true, laidLooks := .later }
def ViewWiderUptoCardSaid : Prop := Claim7.holds Tryz.pinned (.plain (OpenSpec.upto viewWiderSpec)) viewWiderUptoCard

/-- THE SECOND FORM's CARD OF 'millstreamlaw25.ViewKnown'. -/
def viewKnownUptoCard : Claim7 := { stood := { row := viewKnownUptoRow, standIns := [], harness := (true, "a4f4e1d873143a65eac3f1390d82364d262e32bb347194823c2957669f2f8dfd"), looks := true }, kinds := [], alts := [], laidByText := true, laidKinds := [.data, .data, .data, .data, .sentinel, .sentinel, .pinned], laidTests := true, laidLooks := .later }
def ViewKnownUptoCardSaid : Prop := Claim7.holds Tryz.pinned (.plain (OpenSpec.upto viewKnownSpec)) viewKnownUptoCard
end Rows
end Go.Proofs.YtkfpleidaoaonaaGreatDoor
