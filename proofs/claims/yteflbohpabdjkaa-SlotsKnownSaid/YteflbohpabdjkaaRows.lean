/-
  No cell of these rows narrows 'for every input' (looked for: loops, veiled, ifaces, maps, wideKeys, modest, calm, conditions, laid).
  DERIVED. THE GIVEN ROWS OF THIS SEAT. 14 by the template 'for every input the law returns true; each argument reads behind the call as it read before'; 0 by the template 'total and deterministic' (their statements: YteflbohpabdjkaaTotals.lean).
  GIVEN WITH THE SEED: the statements are not yours to turn. If you find one false, say at which input.
  Laid BY PROGRAM, IN A SANDBOX (cutbox-rows.mjs): the forced cells as the released guide's own fill.sh prints them over the translation 7af7f23673885296… (all of the seat's roots in one cut). By AI agents, Wed Nov 11 2026. No macro, syntax, notation, axiom, sorry.
-/
import Derived.Test.YteflbohpabdjkaaChecked
import GoSem.Claim
import GoSem.ClaimJoined
import GoSem.ClaimMapViews
import Derived.JoinedTies
import Derived.KernelRfl
namespace Go.Proofs.Yteflbohpabdjkaa
/- THE CELL 'sum', in the pinned program and in every row, IS THE sha256 OF THE DUMP (.gsa) THAT YteflbohpabdjkaaProg.lean LOADS. Nothing in Lean hashes anything: it is a label: what it is worth is what the hold of that sum in a sandbox is worth. -/
noncomputable def Try.pinned : Pinned := { name := "yteflbohpabdjkaa", sum := "7af7f2367388529613491d9358cdb339a6d1b6f07377792a63ed6716a9e77a73", checked := Try.checked }
namespace Rows
def none {H : Type} : Left H := { results := [], args := [] }

/-- 'millstreamlaw29.DiskKeeps': WHATEVER THE INPUT: true; the input reads as it did. -/
def diskKeepsSpec : ChangeSpec := { name := "diskKeeps", fn := fun _ => fun
  | [d1, d2] => { results := [.lit (.bool true)], args := [d1, d2] }
  | _ => none }
def diskKeepsRow : OpenClaim := { program := "yteflbohpabdjkaa", sum := "7af7f2367388529613491d9358cdb339a6d1b6f07377792a63ed6716a9e77a73", func := "millstream/millstreamlaw29.DiskKeeps", spec := "diskKeeps", inPlace := ["maps.clone"], unfollowed := true, recurses := true, apart := false }
def DiskKeepsSaid : Prop := diskKeepsRow.holds Try.pinned (OpenSpec.ofChange diskKeepsSpec)

/-- ITS FALSE NEIGHBOUR: 'it returns false'. Refute it at one input. -/
def diskKeepsWrong : ChangeSpec := { name := "diskKeeps", fn := fun _ => fun
  | [d1, d2] => { results := [.lit (.bool false)], args := [d1, d2] }
  | _ => none }
def DiskKeepsWrongFalsely : Prop := diskKeepsRow.holds Try.pinned (OpenSpec.ofChange diskKeepsWrong)

/-- 'millstreamlaw29.DiskStays': WHATEVER THE INPUT: true; the input reads as it did. -/
def diskStaysSpec : ChangeSpec := { name := "diskStays", fn := fun _ => fun
  | [d1, d2, d3] => { results := [.lit (.bool true)], args := [d1, d2, d3] }
  | _ => none }
def diskStaysRow : OpenClaim := { program := "yteflbohpabdjkaa", sum := "7af7f2367388529613491d9358cdb339a6d1b6f07377792a63ed6716a9e77a73", func := "millstream/millstreamlaw29.DiskStays", spec := "diskStays", inPlace := ["maps.clone"], unfollowed := true, recurses := true, apart := false }
def DiskStaysSaid : Prop := diskStaysRow.holds Try.pinned (OpenSpec.ofChange diskStaysSpec)

/-- ITS FALSE NEIGHBOUR: 'it returns false'. Refute it at one input. -/
def diskStaysWrong : ChangeSpec := { name := "diskStays", fn := fun _ => fun
  | [d1, d2, d3] => { results := [.lit (.bool false)], args := [d1, d2, d3] }
  | _ => none }
def DiskStaysWrongFalsely : Prop := diskStaysRow.holds Try.pinned (OpenSpec.ofChange diskStaysWrong)

/-- 'millstreamlaw29.DiskAll': WHATEVER THE INPUT: true; the input reads as it did. -/
def diskAllSpec : ChangeSpec := { name := "diskAll", fn := fun _ => fun
  | [d1, d2] => { results := [.lit (.bool true)], args := [d1, d2] }
  | _ => none }
def diskAllRow : OpenClaim := { program := "yteflbohpabdjkaa", sum := "7af7f2367388529613491d9358cdb339a6d1b6f07377792a63ed6716a9e77a73", func := "millstream/millstreamlaw29.DiskAll", spec := "diskAll", inPlace := ["maps.clone"], unfollowed := true, recurses := true, apart := false }
def DiskAllSaid : Prop := diskAllRow.holds Try.pinned (OpenSpec.ofChange diskAllSpec)

/-- ITS FALSE NEIGHBOUR: 'it returns false'. Refute it at one input. -/
def diskAllWrong : ChangeSpec := { name := "diskAll", fn := fun _ => fun
  | [d1, d2] => { results := [.lit (.bool false)], args := [d1, d2] }
  | _ => none }
def DiskAllWrongFalsely : Prop := diskAllRow.holds Try.pinned (OpenSpec.ofChange diskAllWrong)

/-- 'millstreamlaw29.DiskFails': WHATEVER THE INPUT: true; the input reads as it did. -/
def diskFailsSpec : ChangeSpec := { name := "diskFails", fn := fun _ => fun
  | [d1, d2, d3] => { results := [.lit (.bool true)], args := [d1, d2, d3] }
  | _ => none }
def diskFailsRow : OpenClaim := { program := "yteflbohpabdjkaa", sum := "7af7f2367388529613491d9358cdb339a6d1b6f07377792a63ed6716a9e77a73", func := "millstream/millstreamlaw29.DiskFails", spec := "diskFails", inPlace := ["maps.clone"], unfollowed := true, recurses := true, apart := false }
def DiskFailsSaid : Prop := diskFailsRow.holds Try.pinned (OpenSpec.ofChange diskFailsSpec)

/-- ITS FALSE NEIGHBOUR: 'it returns false'. Refute it at one input. -/
def diskFailsWrong : ChangeSpec := { name := "diskFails", fn := fun _ => fun
  | [d1, d2, d3] => { results := [.lit (.bool false)], args := [d1, d2, d3] }
  | _ => none }
def DiskFailsWrongFalsely : Prop := diskFailsRow.holds Try.pinned (OpenSpec.ofChange diskFailsWrong)

/-- 'millstreamlaw29.DiskAlone': WHATEVER THE INPUT: true; the input reads as it did. -/
def diskAloneSpec : ChangeSpec := { name := "diskAlone", fn := fun _ => fun
  | [d1, d2, d3] => { results := [.lit (.bool true)], args := [d1, d2, d3] }
  | _ => none }
def diskAloneRow : OpenClaim := { program := "yteflbohpabdjkaa", sum := "7af7f2367388529613491d9358cdb339a6d1b6f07377792a63ed6716a9e77a73", func := "millstream/millstreamlaw29.DiskAlone", spec := "diskAlone", inPlace := ["maps.clone"], unfollowed := true, recurses := true, apart := false }
def DiskAloneSaid : Prop := diskAloneRow.holds Try.pinned (OpenSpec.ofChange diskAloneSpec)

/-- ITS FALSE NEIGHBOUR: 'it returns false'. Refute it at one input. -/
def diskAloneWrong : ChangeSpec := { name := "diskAlone", fn := fun _ => fun
  | [d1, d2, d3] => { results := [.lit (.bool false)], args := [d1, d2, d3] }
  | _ => none }
def DiskAloneWrongFalsely : Prop := diskAloneRow.holds Try.pinned (OpenSpec.ofChange diskAloneWrong)

/-- 'millstreamlaw29.DiskPlays': WHATEVER THE INPUT: true; the input reads as it did. -/
def diskPlaysSpec : ChangeSpec := { name := "diskPlays", fn := fun _ => fun
  | [d1, d2] => { results := [.lit (.bool true)], args := [d1, d2] }
  | _ => none }
def diskPlaysRow : OpenClaim := { program := "yteflbohpabdjkaa", sum := "7af7f2367388529613491d9358cdb339a6d1b6f07377792a63ed6716a9e77a73", func := "millstream/millstreamlaw29.DiskPlays", spec := "diskPlays", inPlace := ["maps.clone"], unfollowed := true, recurses := true, apart := false }
def DiskPlaysSaid : Prop := diskPlaysRow.holds Try.pinned (OpenSpec.ofChange diskPlaysSpec)

/-- ITS FALSE NEIGHBOUR: 'it returns false'. Refute it at one input. -/
def diskPlaysWrong : ChangeSpec := { name := "diskPlays", fn := fun _ => fun
  | [d1, d2] => { results := [.lit (.bool false)], args := [d1, d2] }
  | _ => none }
def DiskPlaysWrongFalsely : Prop := diskPlaysRow.holds Try.pinned (OpenSpec.ofChange diskPlaysWrong)

/-- 'millstreamlaw29.DiskKnown': WHATEVER THE INPUT: true; the input reads as it did. -/
def diskKnownSpec : ChangeSpec := { name := "diskKnown", fn := fun _ => fun
  | [] => { results := [.lit (.bool true)], args := [] }
  | _ => none }
def diskKnownRow : OpenClaim := { program := "yteflbohpabdjkaa", sum := "7af7f2367388529613491d9358cdb339a6d1b6f07377792a63ed6716a9e77a73", func := "millstream/millstreamlaw29.DiskKnown", spec := "diskKnown", inPlace := ["maps.clone"], unfollowed := true, recurses := true, apart := false }
def DiskKnownSaid : Prop := diskKnownRow.holds Try.pinned (OpenSpec.ofChange diskKnownSpec)

/-- ITS FALSE NEIGHBOUR: 'it returns false'. Refute it at one input. -/
def diskKnownWrong : ChangeSpec := { name := "diskKnown", fn := fun _ => fun
  | [] => { results := [.lit (.bool false)], args := [] }
  | _ => none }
def DiskKnownWrongFalsely : Prop := diskKnownRow.holds Try.pinned (OpenSpec.ofChange diskKnownWrong)

/-- 'millstreamlaw30.SlotsEvery': WHATEVER THE INPUT: true; the input reads as it did. -/
def slotsEverySpec : ChangeSpec := { name := "slotsEvery", fn := fun _ => fun
  | [d1, d2] => { results := [.lit (.bool true)], args := [d1, d2] }
  | _ => none }
def slotsEveryRow : OpenClaim := { program := "yteflbohpabdjkaa", sum := "7af7f2367388529613491d9358cdb339a6d1b6f07377792a63ed6716a9e77a73", func := "millstream/millstreamlaw30.SlotsEvery", spec := "slotsEvery", inPlace := ["maps.clone"], unfollowed := true, recurses := true, apart := false }
def SlotsEverySaid : Prop := slotsEveryRow.holds Try.pinned (OpenSpec.ofChange slotsEverySpec)

/-- ITS FALSE NEIGHBOUR: 'it returns false'. Refute it at one input. -/
def slotsEveryWrong : ChangeSpec := { name := "slotsEvery", fn := fun _ => fun
  | [d1, d2] => { results := [.lit (.bool false)], args := [d1, d2] }
  | _ => none }
def SlotsEveryWrongFalsely : Prop := slotsEveryRow.holds Try.pinned (OpenSpec.ofChange slotsEveryWrong)

/-- 'millstreamlaw30.SlotsOther': WHATEVER THE INPUT: true; the input reads as it did. -/
def slotsOtherSpec : ChangeSpec := { name := "slotsOther", fn := fun _ => fun
  | [d1, d2] => { results := [.lit (.bool true)], args := [d1, d2] }
  | _ => none }
def slotsOtherRow : OpenClaim := { program := "yteflbohpabdjkaa", sum := "7af7f2367388529613491d9358cdb339a6d1b6f07377792a63ed6716a9e77a73", func := "millstream/millstreamlaw30.SlotsOther", spec := "slotsOther", inPlace := ["maps.clone"], unfollowed := true, recurses := true, apart := false }
def SlotsOtherSaid : Prop := slotsOtherRow.holds Try.pinned (OpenSpec.ofChange slotsOtherSpec)

/-- ITS FALSE NEIGHBOUR: 'it returns false'. Refute it at one input. -/
def slotsOtherWrong : ChangeSpec := { name := "slotsOther", fn := fun _ => fun
  | [d1, d2] => { results := [.lit (.bool false)], args := [d1, d2] }
  | _ => none }
def SlotsOtherWrongFalsely : Prop := slotsOtherRow.holds Try.pinned (OpenSpec.ofChange slotsOtherWrong)

/-- 'millstreamlaw30.SlotsCrash': WHATEVER THE INPUT: true; the input reads as it did. -/
def slotsCrashSpec : ChangeSpec := { name := "slotsCrash", fn := fun _ => fun
  | [d1, d2, d3] => { results := [.lit (.bool true)], args := [d1, d2, d3] }
  | _ => none }
def slotsCrashRow : OpenClaim := { program := "yteflbohpabdjkaa", sum := "7af7f2367388529613491d9358cdb339a6d1b6f07377792a63ed6716a9e77a73", func := "millstream/millstreamlaw30.SlotsCrash", spec := "slotsCrash", inPlace := ["maps.clone"], unfollowed := true, recurses := true, apart := false }
def SlotsCrashSaid : Prop := slotsCrashRow.holds Try.pinned (OpenSpec.ofChange slotsCrashSpec)

/-- ITS FALSE NEIGHBOUR: 'it returns false'. Refute it at one input. -/
def slotsCrashWrong : ChangeSpec := { name := "slotsCrash", fn := fun _ => fun
  | [d1, d2, d3] => { results := [.lit (.bool false)], args := [d1, d2, d3] }
  | _ => none }
def SlotsCrashWrongFalsely : Prop := slotsCrashRow.holds Try.pinned (OpenSpec.ofChange slotsCrashWrong)

/-- 'millstreamlaw30.SlotsKeep': WHATEVER THE INPUT: true; the input reads as it did. -/
def slotsKeepSpec : ChangeSpec := { name := "slotsKeep", fn := fun _ => fun
  | [d1, d2] => { results := [.lit (.bool true)], args := [d1, d2] }
  | _ => none }
def slotsKeepRow : OpenClaim := { program := "yteflbohpabdjkaa", sum := "7af7f2367388529613491d9358cdb339a6d1b6f07377792a63ed6716a9e77a73", func := "millstream/millstreamlaw30.SlotsKeep", spec := "slotsKeep", inPlace := ["maps.clone"], unfollowed := true, recurses := true, apart := false }
def SlotsKeepSaid : Prop := slotsKeepRow.holds Try.pinned (OpenSpec.ofChange slotsKeepSpec)

/-- ITS FALSE NEIGHBOUR: 'it returns false'. Refute it at one input. -/
def slotsKeepWrong : ChangeSpec := { name := "slotsKeep", fn := fun _ => fun
  | [d1, d2] => { results := [.lit (.bool false)], args := [d1, d2] }
  | _ => none }
def SlotsKeepWrongFalsely : Prop := slotsKeepRow.holds Try.pinned (OpenSpec.ofChange slotsKeepWrong)

/-- 'millstreamlaw30.SlotsOps': WHATEVER THE INPUT: true; the input reads as it did. -/
def slotsOpsSpec : ChangeSpec := { name := "slotsOps", fn := fun _ => fun
  | [d1, d2] => { results := [.lit (.bool true)], args := [d1, d2] }
  | _ => none }
def slotsOpsRow : OpenClaim := { program := "yteflbohpabdjkaa", sum := "7af7f2367388529613491d9358cdb339a6d1b6f07377792a63ed6716a9e77a73", func := "millstream/millstreamlaw30.SlotsOps", spec := "slotsOps", inPlace := ["maps.clone"], unfollowed := true, recurses := true, apart := false }
def SlotsOpsSaid : Prop := slotsOpsRow.holds Try.pinned (OpenSpec.ofChange slotsOpsSpec)

/-- ITS FALSE NEIGHBOUR: 'it returns false'. Refute it at one input. -/
def slotsOpsWrong : ChangeSpec := { name := "slotsOps", fn := fun _ => fun
  | [d1, d2] => { results := [.lit (.bool false)], args := [d1, d2] }
  | _ => none }
def SlotsOpsWrongFalsely : Prop := slotsOpsRow.holds Try.pinned (OpenSpec.ofChange slotsOpsWrong)

/-- 'millstreamlaw30.SlotsPlay': WHATEVER THE INPUT: true; the input reads as it did. -/
def slotsPlaySpec : ChangeSpec := { name := "slotsPlay", fn := fun _ => fun
  | [d1, d2, d3] => { results := [.lit (.bool true)], args := [d1, d2, d3] }
  | _ => none }
def slotsPlayRow : OpenClaim := { program := "yteflbohpabdjkaa", sum := "7af7f2367388529613491d9358cdb339a6d1b6f07377792a63ed6716a9e77a73", func := "millstream/millstreamlaw30.SlotsPlay", spec := "slotsPlay", inPlace := ["maps.clone"], unfollowed := true, recurses := true, apart := false }
def SlotsPlaySaid : Prop := slotsPlayRow.holds Try.pinned (OpenSpec.ofChange slotsPlaySpec)

/-- ITS FALSE NEIGHBOUR: 'it returns false'. Refute it at one input. -/
def slotsPlayWrong : ChangeSpec := { name := "slotsPlay", fn := fun _ => fun
  | [d1, d2, d3] => { results := [.lit (.bool false)], args := [d1, d2, d3] }
  | _ => none }
def SlotsPlayWrongFalsely : Prop := slotsPlayRow.holds Try.pinned (OpenSpec.ofChange slotsPlayWrong)

/-- 'millstreamlaw30.SlotsKnown': WHATEVER THE INPUT: true; the input reads as it did. -/
def slotsKnownSpec : ChangeSpec := { name := "slotsKnown", fn := fun _ => fun
  | [] => { results := [.lit (.bool true)], args := [] }
  | _ => none }
def slotsKnownRow : OpenClaim := { program := "yteflbohpabdjkaa", sum := "7af7f2367388529613491d9358cdb339a6d1b6f07377792a63ed6716a9e77a73", func := "millstream/millstreamlaw30.SlotsKnown", spec := "slotsKnown", inPlace := ["maps.clone"], unfollowed := true, recurses := true, apart := false }
def SlotsKnownSaid : Prop := slotsKnownRow.holds Try.pinned (OpenSpec.ofChange slotsKnownSpec)

/-- ITS FALSE NEIGHBOUR: 'it returns false'. Refute it at one input. -/
def slotsKnownWrong : ChangeSpec := { name := "slotsKnown", fn := fun _ => fun
  | [] => { results := [.lit (.bool false)], args := [] }
  | _ => none }
def SlotsKnownWrongFalsely : Prop := slotsKnownRow.holds Try.pinned (OpenSpec.ofChange slotsKnownWrong)

/- THE SECOND FORM. 'bulk': how many values and letters a reading holds, each counted each time it is reached (what is shared counts as often as it is met; a slice's spare places count too). A statement '..UptoSaid' is the law's where the arguments, and the package variables that the reading takes, are together of bulk at most 1048576: NARROWER than '..Said'. Prove '..Said' where nothing that the law and all that it calls make is longer than what came in: it says more and counts as full. Else prove '..UptoSaid'. A law counts once. -/
mutual
def uptoBulk {H : Type} : DataW H → Nat
  | .lit (.string bytes) => bytes.length + 1
  | .lit _ => 1
  | .nil => 1
  | .ptr d => uptoBulk d + 1
  | .slice elems spare => uptoBulkAll elems + uptoBulkAll spare + 1
  | .agg parts => uptoBulkAll parts + 1
  | .iface _ d => uptoBulk d + 1
  | .map entries => uptoBulkEntries entries + 1
  | .held _ => 1
def uptoBulkAll {H : Type} : List (DataW H) → Nat
  | [] => 0
  | d :: r => uptoBulk d + uptoBulkAll r
def uptoBulkEntries {H : Type} : List (Lit × DataW H) → Nat
  | [] => 0
  | x :: r => uptoBulkEntry x + uptoBulkEntries r
def uptoBulkEntry {H : Type} : Lit × DataW H → Nat
  | (.string bytes, d) => bytes.length + uptoBulk d + 1
  | (_, d) => uptoBulk d + 1
 end
def uptoSmall : (H : Type) → List (DataW H) → Bool := fun _ ds => decide (uptoBulkAll ds ≤ 1048576)
def OpenSpec.upto (s : _root_.Go.ChangeSpec) : _root_.Go.OpenSpec := { _root_.Go.OpenSpec.ofChange s with cond := some uptoSmall }

/-- 'millstreamlaw29.DiskKeeps', WHERE WHAT IT READS IS OF BULK AT MOST 1048576: true; the input reads as it did. -/
def diskKeepsUptoRow : OpenClaim := { program := "yteflbohpabdjkaa", sum := "7af7f2367388529613491d9358cdb339a6d1b6f07377792a63ed6716a9e77a73", func := "millstream/millstreamlaw29.DiskKeeps", spec := "diskKeeps", inPlace := ["maps.clone"], unfollowed := true, recurses := true, apart := false, narrowed := true }
def DiskKeepsUptoSaid : Prop := diskKeepsUptoRow.holds Try.pinned (OpenSpec.upto diskKeepsSpec)

/-- 'millstreamlaw29.DiskStays', WHERE WHAT IT READS IS OF BULK AT MOST 1048576: true; the input reads as it did. -/
def diskStaysUptoRow : OpenClaim := { program := "yteflbohpabdjkaa", sum := "7af7f2367388529613491d9358cdb339a6d1b6f07377792a63ed6716a9e77a73", func := "millstream/millstreamlaw29.DiskStays", spec := "diskStays", inPlace := ["maps.clone"], unfollowed := true, recurses := true, apart := false, narrowed := true }
def DiskStaysUptoSaid : Prop := diskStaysUptoRow.holds Try.pinned (OpenSpec.upto diskStaysSpec)

/-- 'millstreamlaw29.DiskAll', WHERE WHAT IT READS IS OF BULK AT MOST 1048576: true; the input reads as it did. -/
def diskAllUptoRow : OpenClaim := { program := "yteflbohpabdjkaa", sum := "7af7f2367388529613491d9358cdb339a6d1b6f07377792a63ed6716a9e77a73", func := "millstream/millstreamlaw29.DiskAll", spec := "diskAll", inPlace := ["maps.clone"], unfollowed := true, recurses := true, apart := false, narrowed := true }
def DiskAllUptoSaid : Prop := diskAllUptoRow.holds Try.pinned (OpenSpec.upto diskAllSpec)

/-- 'millstreamlaw29.DiskFails', WHERE WHAT IT READS IS OF BULK AT MOST 1048576: true; the input reads as it did. -/
def diskFailsUptoRow : OpenClaim := { program := "yteflbohpabdjkaa", sum := "7af7f2367388529613491d9358cdb339a6d1b6f07377792a63ed6716a9e77a73", func := "millstream/millstreamlaw29.DiskFails", spec := "diskFails", inPlace := ["maps.clone"], unfollowed := true, recurses := true, apart := false, narrowed := true }
def DiskFailsUptoSaid : Prop := diskFailsUptoRow.holds Try.pinned (OpenSpec.upto diskFailsSpec)

/-- 'millstreamlaw29.DiskAlone', WHERE WHAT IT READS IS OF BULK AT MOST 1048576: true; the input reads as it did. -/
def diskAloneUptoRow : OpenClaim := { program := "yteflbohpabdjkaa", sum := "7af7f2367388529613491d9358cdb339a6d1b6f07377792a63ed6716a9e77a73", func := "millstream/millstreamlaw29.DiskAlone", spec := "diskAlone", inPlace := ["maps.clone"], unfollowed := true, recurses := true, apart := false, narrowed := true }
def DiskAloneUptoSaid : Prop := diskAloneUptoRow.holds Try.pinned (OpenSpec.upto diskAloneSpec)

/-- 'millstreamlaw29.DiskPlays', WHERE WHAT IT READS IS OF BULK AT MOST 1048576: true; the input reads as it did. -/
def diskPlaysUptoRow : OpenClaim := { program := "yteflbohpabdjkaa", sum := "7af7f2367388529613491d9358cdb339a6d1b6f07377792a63ed6716a9e77a73", func := "millstream/millstreamlaw29.DiskPlays", spec := "diskPlays", inPlace := ["maps.clone"], unfollowed := true, recurses := true, apart := false, narrowed := true }
def DiskPlaysUptoSaid : Prop := diskPlaysUptoRow.holds Try.pinned (OpenSpec.upto diskPlaysSpec)

/-- 'millstreamlaw29.DiskKnown', WHERE WHAT IT READS IS OF BULK AT MOST 1048576: true; the input reads as it did. -/
def diskKnownUptoRow : OpenClaim := { program := "yteflbohpabdjkaa", sum := "7af7f2367388529613491d9358cdb339a6d1b6f07377792a63ed6716a9e77a73", func := "millstream/millstreamlaw29.DiskKnown", spec := "diskKnown", inPlace := ["maps.clone"], unfollowed := true, recurses := true, apart := false, narrowed := true }
def DiskKnownUptoSaid : Prop := diskKnownUptoRow.holds Try.pinned (OpenSpec.upto diskKnownSpec)

/-- 'millstreamlaw30.SlotsEvery', WHERE WHAT IT READS IS OF BULK AT MOST 1048576: true; the input reads as it did. -/
def slotsEveryUptoRow : OpenClaim := { program := "yteflbohpabdjkaa", sum := "7af7f2367388529613491d9358cdb339a6d1b6f07377792a63ed6716a9e77a73", func := "millstream/millstreamlaw30.SlotsEvery", spec := "slotsEvery", inPlace := ["maps.clone"], unfollowed := true, recurses := true, apart := false, narrowed := true }
def SlotsEveryUptoSaid : Prop := slotsEveryUptoRow.holds Try.pinned (OpenSpec.upto slotsEverySpec)

/-- 'millstreamlaw30.SlotsOther', WHERE WHAT IT READS IS OF BULK AT MOST 1048576: true; the input reads as it did. -/
def slotsOtherUptoRow : OpenClaim := { program := "yteflbohpabdjkaa", sum := "7af7f2367388529613491d9358cdb339a6d1b6f07377792a63ed6716a9e77a73", func := "millstream/millstreamlaw30.SlotsOther", spec := "slotsOther", inPlace := ["maps.clone"], unfollowed := true, recurses := true, apart := false, narrowed := true }
def SlotsOtherUptoSaid : Prop := slotsOtherUptoRow.holds Try.pinned (OpenSpec.upto slotsOtherSpec)

/-- 'millstreamlaw30.SlotsCrash', WHERE WHAT IT READS IS OF BULK AT MOST 1048576: true; the input reads as it did. -/
def slotsCrashUptoRow : OpenClaim := { program := "yteflbohpabdjkaa", sum := "7af7f2367388529613491d9358cdb339a6d1b6f07377792a63ed6716a9e77a73", func := "millstream/millstreamlaw30.SlotsCrash", spec := "slotsCrash", inPlace := ["maps.clone"], unfollowed := true, recurses := true, apart := false, narrowed := true }
def SlotsCrashUptoSaid : Prop := slotsCrashUptoRow.holds Try.pinned (OpenSpec.upto slotsCrashSpec)

/-- 'millstreamlaw30.SlotsKeep', WHERE WHAT IT READS IS OF BULK AT MOST 1048576: true; the input reads as it did. -/
def slotsKeepUptoRow : OpenClaim := { program := "yteflbohpabdjkaa", sum := "7af7f2367388529613491d9358cdb339a6d1b6f07377792a63ed6716a9e77a73", func := "millstream/millstreamlaw30.SlotsKeep", spec := "slotsKeep", inPlace := ["maps.clone"], unfollowed := true, recurses := true, apart := false, narrowed := true }
def SlotsKeepUptoSaid : Prop := slotsKeepUptoRow.holds Try.pinned (OpenSpec.upto slotsKeepSpec)

/-- 'millstreamlaw30.SlotsOps', WHERE WHAT IT READS IS OF BULK AT MOST 1048576: true; the input reads as it did. -/
def slotsOpsUptoRow : OpenClaim := { program := "yteflbohpabdjkaa", sum := "7af7f2367388529613491d9358cdb339a6d1b6f07377792a63ed6716a9e77a73", func := "millstream/millstreamlaw30.SlotsOps", spec := "slotsOps", inPlace := ["maps.clone"], unfollowed := true, recurses := true, apart := false, narrowed := true }
def SlotsOpsUptoSaid : Prop := slotsOpsUptoRow.holds Try.pinned (OpenSpec.upto slotsOpsSpec)

/-- 'millstreamlaw30.SlotsPlay', WHERE WHAT IT READS IS OF BULK AT MOST 1048576: true; the input reads as it did. -/
def slotsPlayUptoRow : OpenClaim := { program := "yteflbohpabdjkaa", sum := "7af7f2367388529613491d9358cdb339a6d1b6f07377792a63ed6716a9e77a73", func := "millstream/millstreamlaw30.SlotsPlay", spec := "slotsPlay", inPlace := ["maps.clone"], unfollowed := true, recurses := true, apart := false, narrowed := true }
def SlotsPlayUptoSaid : Prop := slotsPlayUptoRow.holds Try.pinned (OpenSpec.upto slotsPlaySpec)

/-- 'millstreamlaw30.SlotsKnown', WHERE WHAT IT READS IS OF BULK AT MOST 1048576: true; the input reads as it did. -/
def slotsKnownUptoRow : OpenClaim := { program := "yteflbohpabdjkaa", sum := "7af7f2367388529613491d9358cdb339a6d1b6f07377792a63ed6716a9e77a73", func := "millstream/millstreamlaw30.SlotsKnown", spec := "slotsKnown", inPlace := ["maps.clone"], unfollowed := true, recurses := true, apart := false, narrowed := true }
def SlotsKnownUptoSaid : Prop := slotsKnownUptoRow.holds Try.pinned (OpenSpec.upto slotsKnownSpec)

end Rows
end Go.Proofs.Yteflbohpabdjkaa
