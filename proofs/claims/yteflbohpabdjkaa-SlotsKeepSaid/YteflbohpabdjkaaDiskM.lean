/-
  The disk, told plainly: what its methods do to it, as Lean functions; and how it lies in memory.
-/
import Derived.Test.YteflbohpabdjkaaFacts
import Derived.Test.YteflbohpabdjkaaMwDraw3
namespace Go.Proofs.Yteflbohpabdjkaa
open Go Go.Mw

/-- A byte, a number as values. -/
def B (u : UInt8) : Value := .int .u8 u.toNat
def I (k : Int) : Value := .int .i64 k
def blkV (b : List UInt8) : Value := .agg (b.map B).toArray
def fits (k : Int) : Prop := -9223372036854775808 ≤ k ∧ k ≤ 9223372036854775807

structure DM where
  size : Int
  kept : Int → Option (List UInt8)
  now : Int → Option (List UInt8)
  opn : List (Int × List UInt8)
  dead : Bool
  ops : Int
  fail : Int
  keep : List Int

def pad (b : List UInt8) : List UInt8 := b ++ List.replicate (128 - b.length) 0
def setAt (f : Int → Option (List UInt8)) (k : Int) (b : List UInt8) : Int → Option (List UInt8) := fun x => if x = k then some b else f x
/-- The open writes whose numbers (from i on) are kept, laid over what stays. -/
def keptBy (keep : List Int) : (i : Nat) → List (Int × List UInt8) → (Int → Option (List UInt8)) → Int → Option (List UInt8)
  | _, [], f => f
  | i, x :: l, f => keptBy keep (i + 1) l (if keep.contains (i : Int) then setAt f x.1 x.2 else f)
namespace DM
def wf (d : DM) : Prop := 1 ≤ d.size ∧ d.size ≤ 65536 ∧ (∀ k b, d.kept k = some b → b.length = 128) ∧ (∀ k b, d.now k = some b → b.length = 128) ∧ ∀ x ∈ d.opn, x.2.length = 128
def look (d : DM) (at_ : Int) : Int := if d.dead then 290 else if at_ < 0 ∨ d.size ≤ at_ then 6 else 0
def fall (d : DM) (keep : List Int) : DM := { d with kept := keptBy keep 0 d.opn d.kept, now := keptBy keep 0 d.opn d.kept, opn := [], dead := true, fail := 0, keep := [] }
def count (d : DM) : Bool × DM := if d.ops + 1 = d.fail then (false, fall { d with ops := d.ops + 1 } d.keep) else (true, { d with ops := d.ops + 1 })
def put (d : DM) (at_ : Int) (b : List UInt8) : DM := { d with opn := d.opn ++ [(at_, pad b)], now := setAt d.now at_ (pad b) }
def write (d : DM) (at_ : Int) (b : List UInt8) : Int × DM :=
  if d.look at_ ≠ 0 then (d.look at_, d) else if 128 < b.length then (5, d) else
  ((if (d.put at_ b).count.1 then 0 else 290), (d.put at_ b).count.2)
/-- What a sector shows. -/
def sec (d : DM) (at_ : Int) : List UInt8 := (d.now at_).getD (List.replicate 128 0)
def read (d : DM) (at_ : Int) : Option (List UInt8) × Int := if d.look at_ ≠ 0 then (none, d.look at_) else (some (d.sec at_), 0)
def keptAll : List (Int × List UInt8) → (Int → Option (List UInt8)) → Int → Option (List UInt8)
  | [], f => f
  | x :: l, f => keptAll l (setAt f x.1 x.2)
def flush (d : DM) : Int × DM :=
  if d.look 0 ≠ 0 then (d.look 0, d) else if d.count.1 then (0, { d.count.2 with kept := keptAll d.opn d.kept, opn := [] }) else (290, d.count.2)
def failAt (d : DM) (ops : Int) (keep : List Int) : DM :=
  if d.dead then d else if 0 < ops ∧ ops ≤ 4611686018427387904 - d.ops then { d with fail := d.ops + ops, keep := keep } else { d with fail := 0, keep := [] }
def crash (d : DM) (keep : List Int) : DM := if d.dead then d else d.fall keep
def boot (d : DM) : DM := { d with dead := false }
theorem sec_length {d : DM} (h : d.wf) (k : Int) : (d.sec k).length = 128 := by
  unfold sec
  cases hq : d.now k with
  | none => rw [Option.getD_none, List.length_replicate]
  | some b => exact h.2.2.2.1 _ _ hq
end DM

/-- How a disk lies in memory. -/
def openCells (l : List (Int × List UInt8)) : List Value := l.flatMap fun x => I x.1 :: x.2.map B
def dmap (f : Int → Option (List UInt8)) : Int → Option Value := fun k => (f k).map blkV
def diskCells (d : DM) (bk bn : Nat) (vo vk : Value) : List Value := [I d.size, .map (some bk), .map (some bn), vo, .bool d.dead, I d.ops, I d.fail, vk]
def diskParts (p : Nat) (d : DM) (x : Nat × Nat × Value × Value) : List HP :=
  [blk p (diskCells d x.1 x.2.1 x.2.2.1 x.2.2.2) 64, mapI x.1 (dmap d.kept), mapI x.2.1 (dmap d.now), rowH 101 129 x.2.2.1 d.opn.length (openCells d.opn), rowH 3 1 x.2.2.2 d.keep.length (d.keep.map I)]
def diskH (p : Nat) (d : DM) : HP := exH fun x => star (pureH d.wf) (starL (diskParts p d x))
theorem Sep.openDisk {w₀ w : World} {S : Nat → Prop} {rs : List HP} {p : Nat} {d : DM} (h : Sep w₀ S (diskH p d :: rs) w) : d.wf ∧ ∃ bk bn vo vk, Sep w₀ S (blk p (diskCells d bk bn vo vk) 64 :: mapI bk (dmap d.kept) :: mapI bn (dmap d.now) :: rowH 101 129 vo d.opn.length (openCells d.opn) :: rowH 3 1 vk d.keep.length (d.keep.map I) :: rs) w := by
  obtain ⟨⟨bk, bn, vo, vk⟩, h⟩ := h.ex0
  obtain ⟨hwf, h⟩ := h.star0.pure0
  exact ⟨hwf, bk, bn, vo, vk, h.parts⟩
theorem Sep.shutDisk {w₀ w : World} {S : Nat → Prop} {rs : List HP} {p : Nat} {d : DM} {bk bn : Nat} {vo vk : Value} (hwf : d.wf) (h : Sep w₀ S (blk p (diskCells d bk bn vo vk) 64 :: mapI bk (dmap d.kept) :: mapI bn (dmap d.now) :: rowH 101 129 vo d.opn.length (openCells d.opn) :: rowH 3 1 vk d.keep.length (d.keep.map I) :: rs) w) : Sep w₀ S (diskH p d :: rs) w := by
  refine Sep.pack0 (p := fun x => star (pureH d.wf) (starL (diskParts p d x))) (bk, bn, vo, vk) (Sep.join0 (Sep.addPure hwf ?_))
  exact Sep.bundle (l := diskParts p d (bk, bn, vo, vk)) h
theorem diskH_blk {p : Nat} {d : DM} {F : Nat → Prop} {w : World} (h : (diskH p d).ok F w) : d.wf ∧ ∃ bk bn vo vk, w.heap[p]? = some (.cells (diskCells d bk bn vo vk).toArray 64 (0, 0)) := by
  obtain ⟨hwf, bk, bn, vo, vk, H⟩ := Sep.openDisk (Sep.start1 h)
  exact ⟨hwf, bk, bn, vo, vk, H.obj At0⟩
theorem diskH_now {p : Nat} {d : DM} {F : Nat → Prop} {w : World} (h : (diskH p d).ok F w) : d.wf ∧ ∃ bk bn vo vk, w.heap[p]? = some (.cells (diskCells d bk bn vo vk).toArray 64 (0, 0)) ∧ ∃ es c, w.heap[bn]? = some (.map es c) ∧ intKeys es.toList ∧ ∀ k, mget es.toList k = dmap d.now k := by
  obtain ⟨hwf, bk, bn, vo, vk, H⟩ := Sep.openDisk (Sep.start1 h)
  exact ⟨hwf, bk, bn, vo, vk, H.obj At0, H.mapAt At2⟩
end Go.Proofs.Yteflbohpabdjkaa
