/-
  The slots, told plainly; numbers as bytes; and how they lie in memory.
-/
import Derived.Test.YteflbohpabdjkaaLawE
import Derived.Test.YteflbohpabdjkaaMwArr
namespace Go.Proofs.Yteflbohpabdjkaa
open Go Go.Mw

/-- A number's byte, k places from the end. -/
def byteAt (n : Int) (k : Nat) : UInt8 := UInt8.ofNat (n.fdiv (2 ^ (8 * k)) % 256).toNat
/-- A number's last m bytes, the highest first. -/
def be (m : Nat) (n : Int) : List UInt8 := (List.range m).map fun i => byteAt n (m - 1 - i)
theorem be_length (m : Nat) (n : Int) : (be m n).length = m := by simp [be]
theorem byteAt_val (n : Int) (k : Nat) : ((byteAt n k).toNat : Int) = n.fdiv (2 ^ (8 * k)) % 256 := by
  unfold byteAt
  rw [UInt8.toNat_ofNat']
  omega
theorem be_take_succ {m i : Nat} (n : Int) (h : i < m) : (be m n).take (i + 1) = (be m n).take i ++ [byteAt n (m - 1 - i)] := by
  rw [List.take_succ_eq_append_getElem (by rw [be_length]; exact h)]
  simp [be]
def takeN (l : List UInt8) : Nat := l.foldl (fun n c => (n * 256 + c.toNat) % 18446744073709551616) 0
theorem takeN_snoc (l : List UInt8) (c : UInt8) : takeN (l ++ [c]) = (takeN l * 256 + c.toNat) % 18446744073709551616 := by simp [takeN]
theorem takeN_lt (l : List UInt8) : takeN l < 18446744073709551616 := by
  rcases List.eq_nil_or_concat l with rfl | ⟨l', c, rfl⟩
  · simp [takeN]
  · rw [List.concat_eq_append, takeN_snoc]; exact Nat.mod_lt _ (by decide)
/-- The sector that says what is kept. -/
def rootB (n many : Int) : List UInt8 := be 8 n ++ be 4 many ++ List.replicate 116 0
theorem rootB_length (n many : Int) : (rootB n many).length = 128 := by simp [rootB, be_length]

structure SM where
  n : Int
  many : Int
  bad : Bool
def slotCells (p : Nat) (s : SM) : List Value := [.pointer (some ⟨p, 0, none⟩), I s.n, I s.many, .bool s.bad]
def slotH (s p : Nat) (m : SM) : HP := blk s (slotCells p m) 95
/-- How many sectors an area has; how many bytes; where one begins. -/
def half (d : DM) : Int := (d.size - 1) / 2
def room (d : DM) : Int := half d * 128
def area (d : DM) (n : Int) : Int := 1 + n % 2 * half d
def go (x : Int × DM) (f : DM → Int × DM) : Int × DM := if x.1 = 0 then f x.2 else x
def chunk (b : List UInt8) (k : Nat) : List UInt8 := (b.drop (128 * k)).take 128
def wr (at_ : Int) (b : List UInt8) : Nat → Int × DM → Int × DM
  | 0, x => x
  | k + 1, x => go (wr at_ b k x) fun d => d.write (at_ + k) (chunk b k)
def nch (b : List UInt8) : Nat := (b.length + 127) / 128
def save1 (n : Int) (b : List UInt8) (d : DM) : Int × DM := go (go (go (wr (area d n) b (nch b) (0, d)) DM.flush) fun d => d.write 0 (rootB n b.length)) DM.flush
def mostNum : Int := 9007199254740991
def save (s : SM) (d : DM) (b : List UInt8) : Int × SM × DM :=
  if s.bad then (290, s, d) else if room d < b.length ∨ s.n = mostNum then (5, s, d) else
  if (save1 (s.n + 1) b d).1 ≠ 0 then ((save1 (s.n + 1) b d).1, { s with bad := true }, (save1 (s.n + 1) b d).2) else (0, ⟨s.n + 1, b.length, false⟩, (save1 (s.n + 1) b d).2)
/-- The sectors from one on, so many. -/
def secsFrom (d : DM) (at_ : Int) : Nat → List UInt8
  | 0 => []
  | k + 1 => secsFrom d at_ k ++ d.sec (at_ + k)
def load (s : SM) (d : DM) : List UInt8 × Int × SM :=
  if s.bad then ([], 290, s) else if s.n = 0 then ([], 300, s) else if 0 < s.many ∧ d.dead then ([], 290, { s with bad := true }) else
  ((secsFrom d (area d s.n) ((s.many.toNat + 127) / 128)).take s.many.toNat, 0, s)
/-- What slots of a disk are like. -/
structure SM.ok (s : SM) (d : DM) : Prop where
  n0 : 0 ≤ s.n
  n : s.n ≤ mostNum
  many0 : 0 ≤ s.many
  many : s.many ≤ room d
  size : 3 ≤ d.size
/-- What a root says: a number and a length, or nothing. -/
def rootOf (d : DM) (b : List UInt8) : Option (Int × Int) :=
  let n := takeN (b.take 8)
  let m := takeN ((b.drop 8).take 4)
  if b = rootB n m ∧ (n : Int) ≤ mostNum ∧ (m : Int) ≤ room d ∧ ¬ (n = 0 ∧ 0 < m) then some (n, m) else none
def openS (d : DM) : Int × SM := if d.size < 3 then (5, ⟨0, 0, false⟩) else if d.dead then (290, ⟨0, 0, false⟩) else
  match rootOf d (d.sec 0) with
  | some (n, m) => (0, ⟨n, m, false⟩)
  | none => (4, ⟨0, 0, false⟩)
end Go.Proofs.Yteflbohpabdjkaa
