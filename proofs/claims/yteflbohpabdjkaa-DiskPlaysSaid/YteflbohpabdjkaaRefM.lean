/-
  The reference's disk, told plainly, with the blocks of its sectors; and how it lies in memory.
-/
import Derived.Test.YteflbohpabdjkaaLawF
import Derived.Test.YteflbohpabdjkaaMwRow
namespace Go.Proofs.Yteflbohpabdjkaa
open Go Go.Mw

/-- A sector's value: a slice of a block of its own. -/
def secV (b : Nat) : Value := .slice (some ⟨b, 0, none⟩) 128 128
structure RM where
  many : Int
  kept : List (Nat × List UInt8)
  opn : List (Int × Nat × List UInt8)
  dead : Bool
  ops : Int
  left : Int
  keep : List Int
def poolOf (l : List (Nat × List UInt8)) : List (Nat × List Value) := l.map fun x => (x.1, x.2.map B)
def refOpen (l : List (Int × Nat × List UInt8)) : List Value := l.flatMap fun x => [I x.1, secV x.2.1]
structure RM.ok (m : RM) (pool : List (Nat × List UInt8)) : Prop where
  kept : ∀ x ∈ m.kept, x ∈ pool
  opn : ∀ x ∈ m.opn, x.2 ∈ pool
  len : ∀ x ∈ pool, x.2.length = 128
  at_ : ∀ x ∈ m.opn, 0 ≤ x.1 ∧ x.1 < m.many
  many : 1 ≤ m.many ∧ m.many ≤ 65536
  klen : (m.kept.length : Int) ≤ m.many
def refCells (m : RM) (vk vo ve : Value) : List Value := [I m.many, vk, vo, .bool m.dead, I m.ops, I m.left, ve]
def refParts (q : Nat) (m : RM) (y : Value × Value × Value × List (Nat × List UInt8)) : List HP :=
  [blk q (refCells m y.1 y.2.1 y.2.2.1) 106, rowH 27 1 y.1 m.kept.length (m.kept.map fun x => secV x.1), rowH 108 2 y.2.1 m.opn.length (refOpen m.opn), rowH 3 1 y.2.2.1 m.keep.length (m.keep.map I), poolH 5 (poolOf y.2.2.2)]
def refH (q : Nat) (m : RM) : HP := exH fun y => star (pureH (m.ok y.2.2.2)) (starL (refParts q m y))
section
variable {w₀ w : World} {S : Nat → Prop} {rs : List HP} {q : Nat} {m : RM}
theorem Sep.openRef (h : Sep w₀ S (refH q m :: rs) w) : ∃ vk vo ve pool, m.ok pool ∧ Sep w₀ S (blk q (refCells m vk vo ve) 106 :: rowH 27 1 vk m.kept.length (m.kept.map fun x => secV x.1) :: rowH 108 2 vo m.opn.length (refOpen m.opn) :: rowH 3 1 ve m.keep.length (m.keep.map I) :: poolH 5 (poolOf pool) :: rs) w := by
  obtain ⟨⟨vk, vo, ve, pool⟩, h⟩ := h.ex0
  obtain ⟨hok, h⟩ := h.star0.pure0
  exact ⟨vk, vo, ve, pool, hok, h.parts⟩
theorem Sep.shutRef {vk vo ve : Value} {pool : List (Nat × List UInt8)} (hok : m.ok pool) (h : Sep w₀ S (blk q (refCells m vk vo ve) 106 :: rowH 27 1 vk m.kept.length (m.kept.map fun x => secV x.1) :: rowH 108 2 vo m.opn.length (refOpen m.opn) :: rowH 3 1 ve m.keep.length (m.keep.map I) :: poolH 5 (poolOf pool) :: rs) w) : Sep w₀ S (refH q m :: rs) w := by
  refine Sep.pack0 (p := fun y => star (pureH (m.ok y.2.2.2)) (starL (refParts q m y))) (vk, vo, ve, pool) (Sep.join0 (Sep.addPure hok ?_))
  exact Sep.bundle (l := refParts q m (vk, vo, ve, pool)) h
theorem poolOf_mem {pool : List (Nat × List UInt8)} {x : Nat × List UInt8} (h : x ∈ pool) : (x.1, x.2.map B) ∈ poolOf pool := List.mem_map.2 ⟨x, h, rfl⟩
theorem refOpen_get (l : List (Int × Nat × List UInt8)) (i : Nat) (hi : i < l.length) (j : Nat) (v : Value) (hv : [I l[i].1, secV l[i].2.1][j]? = some v) : (refOpen l)[i * 2 + j]? = some v := by
  induction l generalizing i with
  | nil => simp at hi
  | cons x l ih =>
    have e : refOpen (x :: l) = [I x.1, secV x.2.1] ++ refOpen l := rfl
    rw [e]
    cases i with
    | zero =>
      have hj := (List.getElem?_eq_some_iff.1 hv).1
      rw [Nat.zero_mul, Nat.zero_add, List.getElem?_append_left (show j < [I x.1, secV x.2.1].length from hj)]; exact hv
    | succ i =>
      rw [List.getElem?_append_right (by simp only [List.length_cons, List.length_nil]; omega)]
      have : (i + 1) * 2 + j - [I x.1, secV x.2.1].length = i * 2 + j := by simp only [List.length_cons, List.length_nil]; omega
      rw [this]
      exact ih i (by simpa using hi) hv
end
/-- A list of sectors that is as long as it must be, one of them turned. -/
def setK (l fills : List (Nat × List UInt8)) (at_ : Nat) (x : Nat × List UInt8) : List (Nat × List UInt8) := (l ++ fills).set at_ x
def zeroSec : List UInt8 := List.replicate 128 0
theorem zero_map : zeroSec.map B = List.replicate 128 (Value.int .u8 0) := by unfold zeroSec; rw [List.map_replicate]; rfl
theorem zero_len : zeroSec.length = 128 := by unfold zeroSec; rw [List.length_replicate]
/-- What sectors stand, by their numbers. -/
def kf (l : List (Nat × List UInt8)) : Int → List UInt8 := fun k => if 0 ≤ k then ((l[k.toNat]?).map (·.2)).getD zeroSec else zeroSec
def setT (f : Int → List UInt8) (k : Int) (b : List UInt8) : Int → List UInt8 := fun x => if x = k then b else f x
def keptT (keep : List Int) : (i : Nat) → List (Int × List UInt8) → (Int → List UInt8) → Int → List UInt8
  | _, [], f => f
  | i, x :: l, f => keptT keep (i + 1) l (if keep.contains (i : Int) then setT f x.1 x.2 else f)
def allT : List (Int × List UInt8) → (Int → List UInt8) → Int → List UInt8
  | [], f => f
  | x :: l, f => allT l (setT f x.1 x.2)
/-- The reference's disk, without its blocks. -/
structure AM where
  many : Int
  kf : Int → List UInt8
  opn : List (Int × List UInt8)
  dead : Bool
  ops : Int
  left : Int
  keep : List Int
def RM.abs (m : RM) : AM := ⟨m.many, Go.Proofs.Yteflbohpabdjkaa.kf m.kept, m.opn.map fun x => (x.1, x.2.2), m.dead, m.ops, m.left, m.keep⟩
namespace AM
def fall (a : AM) (keep : List Int) : AM := { a with kf := keptT keep 0 a.opn a.kf, opn := [], dead := true, left := 0, keep := [] }
def counts (a : AM) : AM := { a with ops := a.ops + 1, left := a.left - 1 }
def fails (a : AM) : Bool := decide (a.left - 1 = 0)
def put (a : AM) (at_ : Int) (b : List UInt8) : AM := { a with opn := a.opn ++ [(at_, pad b)] }
def look (a : AM) (at_ : Int) : Int := if a.dead then 290 else if at_ < 0 ∨ a.many ≤ at_ then 6 else 0
def op (a : AM) : Int × AM := if a.fails then (290, a.counts.fall a.keep) else (0, a.counts)
def write (a : AM) (at_ : Int) (b : List UInt8) : Int × AM := if a.look at_ ≠ 0 then (a.look at_, a) else if 128 < b.length then (5, a) else (a.put at_ b).op
def sec (a : AM) (at_ : Int) : List UInt8 := allT a.opn a.kf at_
def read (a : AM) (at_ : Int) : Option (List UInt8) × Int := if a.look at_ ≠ 0 then (none, a.look at_) else (some (a.sec at_), 0)
def flush (a : AM) : Int × AM := if a.dead then (290, a) else if a.fails then a.op else (0, { a.counts with kf := allT a.opn a.kf, opn := [] })
def fail (a : AM) (ops : Int) (keep : List Int) : AM := if a.dead then a else { a with left := max ops 0, keep := keep }
def crash (a : AM) (keep : List Int) : AM := if a.dead then a else a.fall keep
def boot (a : AM) : AM := { a with dead := false }
end AM
/-- How it lies in memory. -/
def refA (q : Nat) (a : AM) : HP := exH fun m : RM => star (pureH (m.abs = a)) (refH q m)
theorem Sep.openA {w₀ w : World} {S : Nat → Prop} {rs : List HP} {q : Nat} {a : AM} (h : Sep w₀ S (refA q a :: rs) w) : ∃ m : RM, m.abs = a ∧ Sep w₀ S (refH q m :: rs) w := by
  obtain ⟨m, h⟩ := h.ex0
  obtain ⟨hm, h⟩ := h.star0.pure0
  exact ⟨m, hm, h⟩
theorem Sep.shutA {w₀ w : World} {S : Nat → Prop} {rs : List HP} {q : Nat} {m : RM} (h : Sep w₀ S (refH q m :: rs) w) : Sep w₀ S (refA q m.abs :: rs) w :=
  Sep.pack0 (p := fun n : RM => star (pureH (n.abs = m.abs)) (refH q n)) m (Sep.join0 (Sep.addPure rfl h))
theorem kf_set {l fills : List (Nat × List UInt8)} {at_ : Nat} {x : Nat × List UInt8} (hz : ∀ z ∈ fills, z.2 = zeroSec) (hlt : at_ < l.length + fills.length) : kf (setK l fills at_ x) = setT (kf l) at_ x.2 := by
  funext k
  unfold kf setT setK
  by_cases hk : 0 ≤ k
  · simp only [if_pos hk]
    obtain ⟨j, rfl⟩ : ∃ j : Nat, k = j := ⟨k.toNat, by omega⟩
    rw [Int.toNat_natCast, List.getElem?_set]
    by_cases hj : at_ = j
    · subst hj
      rw [if_pos rfl, if_pos (by rw [List.length_append]; exact hlt), if_pos rfl]
      rfl
    · rw [if_neg hj, if_neg (by omega), List.getElem?_append]
      split
      · rfl
      · rename_i hge
        rw [List.getElem?_eq_none (l := l) (by omega)]
        cases hq : fills[j - l.length]? with
        | none => rfl
        | some z => rw [Option.map_some, Option.getD_some, hz z (List.mem_of_getElem? hq)]; rfl
  · simp only [if_neg hk, if_neg (show ¬ k = (at_ : Int) by omega)]
end Go.Proofs.Yteflbohpabdjkaa
