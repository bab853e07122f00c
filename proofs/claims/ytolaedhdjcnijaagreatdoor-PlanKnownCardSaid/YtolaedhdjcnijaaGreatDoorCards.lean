/-
  DERIVED. GIVEN WITH THE SEED: THE CARDS: each row of YtolaedhdjcnijaaGreatDoorRows.lean that lists a variable, with what it lists TIED to the program's text (the seventh form; the later family's looks); each row that meets fmt, with fmt's text TOLD by the authors' own Lean function (tested against real Go, not proved from fmt's source: count such statements apart). THE CARD IS WHAT COUNTS. Prove the row's statement (the work); the ties are given (YtolaedhdjcnijaaGreatDoorTie.lean); close each card by the builder's one call (the guide's Derived/Test/ToyasCard.lean, 'card_holds'). Laid BY PROGRAM, IN A SANDBOX (cutbox-door.mjs). By AI agents, Wed Nov 11 2026. No macro, syntax, notation, axiom, sorry.
-/
import Derived.Test.YtolaedhdjcnijaaGreatDoorRows
import GoSem.ClaimSeven
namespace Go.Proofs.YtolaedhdjcnijaaGreatDoor
namespace Rows

/-- THE TIED CARD OF 'millstreamlaw23.PlanTexts'. -/
def planTextsCard : Claim7 := { stood := { row := planTextsRow, standIns := [], harness := (true, "91198bf6cc0e8de333061c989bf35a0541c8a92380db27846a6931efc4def83e"), looks := true }, kinds := [], alts := [], laidByText := true, laidKinds := [.data, .data, .data, .data, .sentinel, .sentinel, .pinned], laidTests := true, laidLooks := .later }
def PlanTextsCardSaid : Prop := Claim7.holds Tryz.pinned (.plain (OpenSpec.ofChange planTextsSpec)) planTextsCard

/-- THE TIED CARD OF 'millstreamlaw23.PlanBack'. -/
def planBackCard : Claim7 := { stood := { row := planBackRow, standIns := [], harness := (true, "91198bf6cc0e8de333061c989bf35a0541c8a92380db27846a6931efc4def83e"), looks := true }, kinds := [], alts := [], laidByText := true, laidKinds := [.data, .data, .data, .data, .sentinel, .sentinel, .pinned], laidTests := true, laidLooks := .later }
def PlanBackCardSaid : Prop := Claim7.holds Tryz.pinned (.plain (OpenSpec.ofChange planBackSpec)) planBackCard

/-- THE TIED CARD OF 'millstreamlaw23.PlanAgain'. -/
def planAgainCard : Claim7 := { stood := { row := planAgainRow, standIns := [], harness := (true, "91198bf6cc0e8de333061c989bf35a0541c8a92380db27846a6931efc4def83e"), looks := true }, kinds := [], alts := [], laidByText := true, laidKinds := [.data, .data, .data, .data, .sentinel, .sentinel, .pinned], laidTests := true, laidLooks := .later }
def PlanAgainCardSaid : Prop := Claim7.holds Tryz.pinned (.plain (OpenSpec.ofChange planAgainSpec)) planAgainCard

/-- THE TIED CARD OF 'millstreamlaw23.PlanComes'. -/
def planComesCard : Claim7 := { stood := { row := planComesRow, standIns := [], harness := (true, "91198bf6cc0e8de333061c989bf35a0541c8a92380db27846a6931efc4def83e"), looks := true }, kinds := [], alts := [], laidByText := true, laidKinds := [.data, .data, .data, .data, .sentinel, .sentinel, .pinned], laidTests := true, laidLooks := .later }
def PlanComesCardSaid : Prop := Claim7.holds Tryz.pinned (.plain (OpenSpec.ofChange planComesSpec)) planComesCard

/-- THE TIED CARD OF 'millstreamlaw23.PlanSpoilt'. -/
def planSpoiltCard : Claim7 := { stood := { row := planSpoiltRow, standIns := [], harness := (true, "91198bf6cc0e8de333061c989bf35a0541c8a92380db27846a6931efc4def83e"), looks := true }, kinds := [], alts := [], laidByText := true, laidKinds := [.data, .data, .data, .data, .sentinel, .sentinel, .pinned], laidTests := true, laidLooks := .later }
def PlanSpoiltCardSaid : Prop := Claim7.holds Tryz.pinned (.plain (OpenSpec.ofChange planSpoiltSpec)) planSpoiltCard

/-- THE TIED CARD OF 'millstreamlaw23.PlanTells'. -/
def planTellsCard : Claim7 := { stood := { row := planTellsRow, standIns := [], harness := (true, "91198bf6cc0e8de333061c989bf35a0541c8a92380db27846a6931efc4def83e"), looks := true }, kinds := [], alts := [], laidByText := true, laidKinds := [.data, .data, .data, .data, .sentinel, .sentinel, .pinned], laidTests := true, laidLooks := .later }
def PlanTellsCardSaid : Prop := Claim7.holds Tryz.pinned (.plain (OpenSpec.ofChange planTellsSpec)) planTellsCard

/-- THE TIED CARD OF 'millstreamlaw23.PlanUses'. -/
def planUsesCard : Claim7 := { stood := { row := planUsesRow, standIns := [], harness := (true, "91198bf6cc0e8de333061c989bf35a0541c8a92380db27846a6931efc4def83e"), looks := true }, kinds := [], alts := [], laidByText := true, laidKinds := [.data, .data, .data, .data, .sentinel, .sentinel, .pinned], laidTests := true, laidLooks := .later }
def PlanUsesCardSaid : Prop := Claim7.holds Tryz.pinned (.plain (OpenSpec.ofChange planUsesSpec)) planUsesCard

/-- THE TIED CARD OF 'millstreamlaw23.PlanKnown'. -/
def planKnownCard : Claim7 := { stood := { row := planKnownRow, standIns := [], harness := (true, "91198bf6cc0e8de333061c989bf35a0541c8a92380db27846a6931efc4def83e"), looks := true }, kinds := [], alts := [], laidByText := true, laidKinds := [.data, .data, .data, .data, .sentinel, .sentinel, .pinned], laidTests := true, laidLooks := .later }
def PlanKnownCardSaid : Prop := Claim7.holds Tryz.pinned (.plain (OpenSpec.ofChange planKnownSpec)) planKnownCard

/-- THE SECOND FORM's CARD OF 'millstreamlaw23.PlanTexts'. -/
def planTextsUptoCard : Claim7 := { stood := { row := planTextsUptoRow, standIns := [], harness := (true, "91198bf6cc0e8de333061c989bf35a0541c8a92380db27846a6931efc4def83e"), looks := true }, kinds := [], alts := [], laidByText := true, laidKinds := [.data, .data, .data, .data, .sentinel, .sentinel, .pinned], laidTests := true, laidLooks := .later }
def PlanTextsUptoCardSaid : Prop := Claim7.holds Tryz.pinned (.plain (OpenSpec.upto planTextsSpec)) planTextsUptoCard

/-- THE SECOND FORM's CARD OF 'millstreamlaw23.PlanBack'. -/
def planBackUptoCard : Claim7 := { stood := { row := planBackUptoRow, standIns := [], harness := (true, "91198bf6cc0e8de333061c989bf35a0541c8a92380db27846a6931efc4def83e"), looks := true }, kinds := [], alts := [], laidByText := true, laidKinds := [.data, .data, .data, .data, .sentinel, .sentinel, .pinned], laidTests := true, laidLooks := .later }
def PlanBackUptoCardSaid : Prop := Claim7.holds Tryz.pinned (.plain (OpenSpec.upto planBackSpec)) planBackUptoCard

/-- THE SECOND FORM's CARD OF 'millstreamlaw23.PlanAgain'. -/
def planAgainUptoCard : Claim7 := { stood := { row := planAgainUptoRow, standIns := [], harness := (true, "91198bf6cc0e8de333061c989bf35a0541c8a92380db27846a6931efc4def83e"), looks := true }, kinds := [], alts := [], laidByText := true, laidKinds := [.data, .data, .data, .data, .sentinel, .sentinel, .pinned], laidTests := true, laidLooks := .later }
def PlanAgainUptoCardSaid : Prop := Claim7.holds Tryz.pinned (.plain (OpenSpec.upto planAgainSpec)) planAgainUptoCard

/-- THE SECOND FORM's CARD OF 'millstreamlaw23.PlanComes'. -/
def planComesUptoCard : Claim7 := { stood := { row := planComesUptoRow, standIns := [], harness := (true, "91198bf6cc0e8de333061c989bf35a0541c8a92380db27846a6931efc4def83e"), looks := true }, kinds := [], alts := [], laidByText := true, laidKinds := [.data, .data, .data, .data, .sentinel, .sentinel, .pinned], laidTests := true, laidLooks := .later }
def PlanComesUptoCardSaid : Prop := Claim7.holds Tryz.pinned (.plain (OpenSpec.upto planComesSpec)) planComesUptoCard

/-- THE SECOND FORM's CARD OF 'millstreamlaw23.PlanSpoilt'. -/
def planSpoiltUptoCard : Claim7 := { stood := { row := planSpoiltUptoRow, standIns := [], harness := (true, "91198bf6cc0e8de333061c989bf35a0541c8a92380db27846a6931efc4def83e"), looks := true }, kinds := [], alts := [], laidByText := true, laidKinds := [.data, .data, .data, .data, .sentinel, .sentinel, .pinned], laidTests := true, laidLooks := .later }
def PlanSpoiltUptoCardSaid : Prop := Claim7.holds Tryz.pinned (.plain (OpenSpec.upto planSpoiltSpec)) planSpoiltUptoCard

/-- THE SECOND FORM's CARD OF 'millstreamlaw23.PlanTells'. -/
def planTellsUptoCard : Claim7 := { stood := { row := planTellsUptoRow, standIns := [], harness := (true, "91198bf6cc0e8de333061c989bf35a0541c8a92380db27846a6931efc4def83e"), looks := true }, kinds := [], alts := [], laidByText := true, laidKinds := [.data, .data, .data, .data, .sentinel, .sentinel, .pinned], laidTests := true, laidLooks := .later }
def PlanTellsUptoCardSaid : Prop := Claim7.holds Tryz.pinned (.plain (OpenSpec.upto planTellsSpec)) planTellsUptoCard

/-- THE SECOND FORM's CARD OF 'millstreamlaw23.PlanUses'. -/
def planUsesUptoCard : Claim7 := { stood := { row := planUsesUptoRow, standIns := [], harness := (true, "91198bf6cc0e8de333061c989bf35a0541c8a92380db27846a6931efc4def83e"), looks := true }, kinds := [], alts := [], laidByText := true, laidKinds := [.data, .data, .data, .data, .sentinel, .sentinel, .pinned], laidTests := true, laidLooks := .later }
def PlanUsesUptoCardSaid : Prop := Claim7.holds Tryz.pinned (.plain (OpenSpec.upto planUsesSpec)) planUsesUptoCard

/-- THE SECOND FORM's CARD OF 'millstreamlaw23.PlanKnown'. -/
def planKnownUptoCard : Claim7 := { stood := { row := planKnownUptoRow, standIns := [], harness := (true, "91198bf6cc0e8de333061c989bf35a0541c8a92380db27846a6931efc4def83e"), looks := true }, kinds := [], alts := [], laidByText := true, laidKinds := [.data, .data, .data, .data, .sentinel, .sentinel, .pinned], laidTests := true, laidLooks := .later }
def PlanKnownUptoCardSaid : Prop := Claim7.holds Tryz.pinned (.plain (OpenSpec.upto planKnownSpec)) planKnownUptoCard
end Rows
end Go.Proofs.YtolaedhdjcnijaaGreatDoor
