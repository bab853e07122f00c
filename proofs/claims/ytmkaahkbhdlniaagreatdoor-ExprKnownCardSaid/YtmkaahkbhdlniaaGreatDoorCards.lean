/-
  DERIVED. GIVEN WITH THE SEED: THE CARDS: each row of YtmkaahkbhdlniaaGreatDoorRows.lean that lists a variable, with what it lists TIED to the program's text (the seventh form; the later family's looks); each row that meets fmt, with fmt's text TOLD by the authors' own Lean function (tested against real Go, not proved from fmt's source: count such statements apart). THE CARD IS WHAT COUNTS. Prove the row's statement (the work); the ties are given (YtmkaahkbhdlniaaGreatDoorTie.lean); close each card by the builder's one call (the guide's Derived/Test/ToyasCard.lean, 'card_holds'). Laid BY PROGRAM, IN A SANDBOX (cutbox-door.mjs). By AI agents, Wed Nov 11 2026. No macro, syntax, notation, axiom, sorry.
-/
import Derived.Test.YtmkaahkbhdlniaaGreatDoorRows
import GoSem.ClaimSeven
namespace Go.Proofs.YtmkaahkbhdlniaaGreatDoor
namespace Rows

/-- THE TIED CARD OF 'millstreamlaw22.ExprEvals'. -/
def exprEvalsCard : Claim7 := { stood := { row := exprEvalsRow, standIns := [], harness := (true, "d39219338b0a6bcf87b120e1229af09d025bc2bfc951999ff4d7c6d5650a09a5"), looks := true }, kinds := [], alts := [], laidByText := true, laidKinds := [.data, .data, .data, .data, .sentinel, .sentinel, .pinned], laidTests := true, laidLooks := .later }
def ExprEvalsCardSaid : Prop := Claim7.holds Tryz.pinned (.plain (OpenSpec.ofChange exprEvalsSpec)) exprEvalsCard

/-- THE TIED CARD OF 'millstreamlaw22.ExprOf'. -/
def exprOfCard : Claim7 := { stood := { row := exprOfRow, standIns := [], harness := (true, "d39219338b0a6bcf87b120e1229af09d025bc2bfc951999ff4d7c6d5650a09a5"), looks := true }, kinds := [], alts := [], laidByText := true, laidKinds := [.data, .data, .data, .data, .sentinel, .sentinel, .pinned], laidTests := true, laidLooks := .later }
def ExprOfCardSaid : Prop := Claim7.holds Tryz.pinned (.plain (OpenSpec.ofChange exprOfSpec)) exprOfCard

/-- THE TIED CARD OF 'millstreamlaw22.ExprWider'. -/
def exprWiderCard : Claim7 := { stood := { row := exprWiderRow, standIns := [], harness := (true, "d39219338b0a6bcf87b120e1229af09d025bc2bfc951999ff4d7c6d5650a09a5"), looks := true }, kinds := [], alts := [], laidByText := true, laidKinds := [.data, .data, .data, .data, .sentinel, .sentinel, .pinned], laidTests := true, laidLooks := .later }
def ExprWiderCardSaid : Prop := Claim7.holds Tryz.pinned (.plain (OpenSpec.ofChange exprWiderSpec)) exprWiderCard

/-- THE TIED CARD OF 'millstreamlaw22.ExprUnused'. -/
def exprUnusedCard : Claim7 := { stood := { row := exprUnusedRow, standIns := [], harness := (true, "d39219338b0a6bcf87b120e1229af09d025bc2bfc951999ff4d7c6d5650a09a5"), looks := true }, kinds := [], alts := [], laidByText := true, laidKinds := [.data, .data, .data, .data, .sentinel, .sentinel, .pinned], laidTests := true, laidLooks := .later }
def ExprUnusedCardSaid : Prop := Claim7.holds Tryz.pinned (.plain (OpenSpec.ofChange exprUnusedSpec)) exprUnusedCard

/-- THE TIED CARD OF 'millstreamlaw22.ExprParts'. -/
def exprPartsCard : Claim7 := { stood := { row := exprPartsRow, standIns := [], harness := (true, "d39219338b0a6bcf87b120e1229af09d025bc2bfc951999ff4d7c6d5650a09a5"), looks := true }, kinds := [], alts := [], laidByText := true, laidKinds := [.data, .data, .data, .data, .sentinel, .sentinel, .pinned], laidTests := true, laidLooks := .later }
def ExprPartsCardSaid : Prop := Claim7.holds Tryz.pinned (.plain (OpenSpec.ofChange exprPartsSpec)) exprPartsCard

/-- THE TIED CARD OF 'millstreamlaw22.ExprOne'. -/
def exprOneCard : Claim7 := { stood := { row := exprOneRow, standIns := [], harness := (true, "d39219338b0a6bcf87b120e1229af09d025bc2bfc951999ff4d7c6d5650a09a5"), looks := true }, kinds := [], alts := [], laidByText := true, laidKinds := [.data, .data, .data, .data, .sentinel, .sentinel, .pinned], laidTests := true, laidLooks := .later }
def ExprOneCardSaid : Prop := Claim7.holds Tryz.pinned (.plain (OpenSpec.ofChange exprOneSpec)) exprOneCard

/-- THE TIED CARD OF 'millstreamlaw22.ExprTexts'. -/
def exprTextsCard : Claim7 := { stood := { row := exprTextsRow, standIns := [], harness := (true, "d39219338b0a6bcf87b120e1229af09d025bc2bfc951999ff4d7c6d5650a09a5"), looks := true }, kinds := [], alts := [], laidByText := true, laidKinds := [.data, .data, .data, .data, .sentinel, .sentinel, .pinned], laidTests := true, laidLooks := .later }
def ExprTextsCardSaid : Prop := Claim7.holds Tryz.pinned (.plain (OpenSpec.ofChange exprTextsSpec)) exprTextsCard

/-- THE TIED CARD OF 'millstreamlaw22.ExprBack'. -/
def exprBackCard : Claim7 := { stood := { row := exprBackRow, standIns := [], harness := (true, "d39219338b0a6bcf87b120e1229af09d025bc2bfc951999ff4d7c6d5650a09a5"), looks := true }, kinds := [], alts := [], laidByText := true, laidKinds := [.data, .data, .data, .data, .sentinel, .sentinel, .pinned], laidTests := true, laidLooks := .later }
def ExprBackCardSaid : Prop := Claim7.holds Tryz.pinned (.plain (OpenSpec.ofChange exprBackSpec)) exprBackCard

/-- THE TIED CARD OF 'millstreamlaw22.ExprAgain'. -/
def exprAgainCard : Claim7 := { stood := { row := exprAgainRow, standIns := [], harness := (true, "d39219338b0a6bcf87b120e1229af09d025bc2bfc951999ff4d7c6d5650a09a5"), looks := true }, kinds := [], alts := [], laidByText := true, laidKinds := [.data, .data, .data, .data, .sentinel, .sentinel, .pinned], laidTests := true, laidLooks := .later }
def ExprAgainCardSaid : Prop := Claim7.holds Tryz.pinned (.plain (OpenSpec.ofChange exprAgainSpec)) exprAgainCard

/-- THE TIED CARD OF 'millstreamlaw22.ExprKnown'. -/
def exprKnownCard : Claim7 := { stood := { row := exprKnownRow, standIns := [], harness := (true, "d39219338b0a6bcf87b120e1229af09d025bc2bfc951999ff4d7c6d5650a09a5"), looks := true }, kinds := [], alts := [], laidByText := true, laidKinds := [.data, .data, .data, .data, .sentinel, .sentinel, .pinned], laidTests := true, laidLooks := .later }
def ExprKnownCardSaid : Prop := Claim7.holds Tryz.pinned (.plain (OpenSpec.ofChange exprKnownSpec)) exprKnownCard

/-- THE SECOND FORM's CARD OF 'millstreamlaw22.ExprEvals'. -/
def exprEvalsUptoCard : Claim7 := { stood := { row := exprEvalsUptoRow, standIns := [], harness := (true, "d39219338b0a6bcf87b120e1229af09d025bc2bfc951999ff4d7c6d5650a09a5"), looks := true }, kinds := [], alts := [], laidByText := true, laidKinds := [.data, .data, .data, .data, .sentinel, .sentinel, .pinned], laidTests := true, laidLooks := .later }
def ExprEvalsUptoCardSaid : Prop := Claim7.holds Tryz.pinned (.plain (OpenSpec.upto exprEvalsSpec)) exprEvalsUptoCard

/-- THE SECOND FORM's CARD OF 'millstreamlaw22.ExprOf'. -/
def exprOfUptoCard : Claim7 := { stood := { row := exprOfUptoRow, standIns := [], harness := (true, "d39219338b0a6bcf87b120e1229af09d025bc2bfc951999ff4d7c6d5650a09a5"), looks := true }, kinds := [], alts := [], laidByText := true, laidKinds := [.data, .data, .data, .data, .sentinel, .sentinel, .pinned], laidTests := true, laidLooks := .later }
def ExprOfUptoCardSaid : Prop := Claim7.holds Tryz.pinned (.plain (OpenSpec.upto exprOfSpec)) exprOfUptoCard

/-- THE SECOND FORM's CARD OF 'millstreamlaw22.ExprWider'. -/
def exprWiderUptoCard : Claim7 := { stood := { row := exprWiderUptoRow, standIns := [], harness := (true, "d39219338b0a6bcf87b120e1229af09d025bc2bfc951999ff4d7c6d5650a09a5"), looks := true }, kinds := [], alts := [], laidByText := true, laidKinds := [.data, .data, .data, .data, .sentinel, .sentinel, .pinned], laidTests := true, laidLooks := .later }
def ExprWiderUptoCardSaid : Prop := Claim7.holds Tryz.pinned (.plain (OpenSpec.upto exprWiderSpec)) exprWiderUptoCard

/-- THE SECOND FORM's CARD OF 'millstreamlaw22.ExprUnused'. -/
def exprUnusedUptoCard : Claim7 := { stood := { row := exprUnusedUptoRow, standIns := [], harness := (true, "d39219338b0a6bcf87b120e1229af09d025bc2bfc951999ff4d7c6d5650a09a5"), looks := true }, kinds := [], alts := [], laidByText := true, laidKinds := [.data, .data, .data, .data, .sentinel, .sentinel, .pinned], laidTests := true, laidLooks := .later }
def ExprUnusedUptoCardSaid : Prop := Claim7.holds Tryz.pinned (.plain (OpenSpec.upto exprUnusedSpec)) exprUnusedUptoCard

/-- THE SECOND FORM's CARD OF 'millstreamlaw22.ExprParts'. -/
def exprPartsUptoCard : Claim7 := { stood := { row := exprPartsUptoRow, standIns := [], harness := (true, "d39219338b0a6bcf87b120e1229af09d025bc2bfc951999ff4d7c6d5650a09a5"), looks := true }, kinds := [], alts := [], laidByText := true, laidKinds := [.data, .data, .data, .data, .sentinel, .sentinel, .pinned], laidTests := true, laidLooks := .later }
def ExprPartsUptoCardSaid : Prop := Claim7.holds Tryz.pinned (.plain (OpenSpec.upto exprPartsSpec)) exprPartsUptoCard

/-- THE SECOND FORM's CARD OF 'millstreamlaw22.ExprOne'. -/
def exprOneUptoCard : Claim7 := { stood := { row := exprOneUptoRow, standIns := [], harness := (true, "d39219338b0a6bcf87b120e1229af09d025bc2bfc951999ff4d7c6d5650a09a5"), looks := true }, kinds := [], alts := [], laidByText := true, laidKinds := [.data, .data, .data, .data, .sentinel, .sentinel, .pinned], laidTests := true, laidLooks := .later }
def ExprOneUptoCardSaid : Prop := Claim7.holds Tryz.pinned (.plain (OpenSpec.upto exprOneSpec)) exprOneUptoCard

/-- THE SECOND FORM's CARD OF 'millstreamlaw22.ExprTexts'. -/
def exprTextsUptoCard : Claim7 := { stood := { row := exprTextsUptoRow, standIns := [], harness := (true, "d39219338b0a6bcf87b120e1229af09d025bc2bfc951999ff4d7c6d5650a09a5"), looks := true }, kinds := [], alts := [], laidByText := true, laidKinds := [.data, .data, .data, .data, .sentinel, .sentinel, .pinned], laidTests := true, laidLooks := .later }
def ExprTextsUptoCardSaid : Prop := Claim7.holds Tryz.pinned (.plain (OpenSpec.upto exprTextsSpec)) exprTextsUptoCard

/-- THE SECOND FORM's CARD OF 'millstreamlaw22.ExprBack'. -/
def exprBackUptoCard : Claim7 := { stood := { row := exprBackUptoRow, standIns := [], harness := (true, "d39219338b0a6bcf87b120e1229af09d025bc2bfc951999ff4d7c6d5650a09a5"), looks := true }, kinds := [], alts := [], laidByText := true, laidKinds := [.data, .data, .data, .data, .sentinel, .sentinel, .pinned], laidTests := true, laidLooks := .later }
def ExprBackUptoCardSaid : Prop := Claim7.holds Tryz.pinned (.plain (OpenSpec.upto exprBackSpec)) exprBackUptoCard

/-- THE SECOND FORM's CARD OF 'millstreamlaw22.ExprAgain'. -/
def exprAgainUptoCard : Claim7 := { stood := { row := exprAgainUptoRow, standIns := [], harness := (true, "d39219338b0a6bcf87b120e1229af09d025bc2bfc951999ff4d7c6d5650a09a5"), looks := true }, kinds := [], alts := [], laidByText := true, laidKinds := [.data, .data, .data, .data, .sentinel, .sentinel, .pinned], laidTests := true, laidLooks := .later }
def ExprAgainUptoCardSaid : Prop := Claim7.holds Tryz.pinned (.plain (OpenSpec.upto exprAgainSpec)) exprAgainUptoCard

/-- THE SECOND FORM's CARD OF 'millstreamlaw22.ExprKnown'. -/
def exprKnownUptoCard : Claim7 := { stood := { row := exprKnownUptoRow, standIns := [], harness := (true, "d39219338b0a6bcf87b120e1229af09d025bc2bfc951999ff4d7c6d5650a09a5"), looks := true }, kinds := [], alts := [], laidByText := true, laidKinds := [.data, .data, .data, .data, .sentinel, .sentinel, .pinned], laidTests := true, laidLooks := .later }
def ExprKnownUptoCardSaid : Prop := Claim7.holds Tryz.pinned (.plain (OpenSpec.upto exprKnownSpec)) exprKnownUptoCard
end Rows
end Go.Proofs.YtmkaahkbhdlniaaGreatDoor
