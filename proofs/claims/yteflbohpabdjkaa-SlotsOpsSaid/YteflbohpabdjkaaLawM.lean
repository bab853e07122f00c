/-
  What the statements' helpers compute, plainly.
-/
import Derived.Test.YteflbohpabdjkaaDiskG
import Derived.Test.YteflbohpabdjkaaMwMake
namespace Go.Proofs.Yteflbohpabdjkaa
open Go Go.Mw

structure PutM where
  at_ : Int
  byte : Int
  many : Int
def putCells (l : List PutM) : List Value := l.flatMap fun x => [I x.at_, I x.byte, I x.many]
def PutM.fit (x : PutM) : Prop := fits x.at_ ∧ fits x.byte ∧ fits x.many
def putB (x : PutM) : List UInt8 := List.replicate (x.many % 129).toNat (UInt8.ofNat (x.byte % 256).toNat)
/-- A disk of five sectors that runs and was not asked to fail. -/
def DM.good (d : DM) : Prop := d.wf ∧ d.dead = false ∧ d.size = 5 ∧ d.fail = 0 ∧ 0 ≤ d.ops
/-- A write that is taken. -/
def DM.put1 (d : DM) (at_ : Int) (b : List UInt8) : DM := { d.put at_ b with ops := d.ops + 1 }
def DM.puts (d : DM) (l : List PutM) : DM := l.foldl (fun d x => d.put1 (x.at_ % 5) (putB x)) d
def DM.flushed (d : DM) : DM := { d with ops := d.ops + 1, kept := DM.keptAll d.opn d.kept, opn := [] }
def fiveM (l : List PutM) : DM := ((DM.new 5).puts (l.take 50)).flushed
def secsTo (d : DM) : Nat → List UInt8
  | 0 => []
  | k + 1 => secsTo d k ++ d.sec k
def secB (d : DM) : List UInt8 := if d.dead = false ∧ 5 ≤ d.size then secsTo d 5 else []
def beginsM (d : DM) (at_ : Int) (c : UInt8) : Bool := decide (d.look at_ = 0) && (d.sec at_ == c :: List.replicate 127 0)

theorem secsTo_length {d : DM} (h : d.wf) (k : Nat) : (secsTo d k).length = k * 128 := by
  induction k with
  | zero => rfl
  | succ k ih => simp only [secsTo, List.length_append, ih, DM.sec_length h]; omega
theorem look_lt {d : DM} (hd : d.dead = false) {k : Int} (h0 : 0 ≤ k) (hk : k < d.size) : d.look k = 0 := by
  unfold DM.look
  rw [hd, if_neg (by simp), if_neg (by omega)]
theorem look_zero {d : DM} {k : Int} (h : d.look k = 0) : d.dead = false ∧ 0 ≤ k ∧ k < d.size := by
  unfold DM.look at h
  split at h
  · cases h
  · rename_i hd
    split at h
    · cases h
    · exact ⟨by simpa using hd, by omega, by omega⟩
theorem write_good {d : DM} (h : d.good) {a : Int} (ha : 0 ≤ a ∧ a < 5) {b : List UInt8} (hb : b.length ≤ 128) : d.write a b = (0, d.put1 a b) := by
  obtain ⟨_, hd, hs, hf, ho⟩ := h
  unfold DM.write
  rw [if_neg (by rw [look_lt hd ha.1 (by omega)]; simp), if_neg (by omega)]
  have : (d.put a b).count = (true, d.put1 a b) := by
    unfold DM.count
    rw [if_neg (by simp [DM.put, hf]; omega)]
    rfl
  rw [this]
  rfl
theorem good_put1 {d : DM} (h : d.good) {a : Int} {b : List UInt8} (hb : b.length ≤ 128) : (d.put1 a b).good := by
  obtain ⟨hw, hd, hs, hf, ho⟩ := h
  exact ⟨hw.put hb, hd, hs, hf, by simp [DM.put1]; omega⟩
theorem flush_good {d : DM} (h : d.good) : d.flush = (0, d.flushed) := by
  obtain ⟨_, hd, hs, hf, ho⟩ := h
  have hc : d.count = (true, { d with ops := d.ops + 1 }) := by
    unfold DM.count
    rw [if_neg (by omega)]
  unfold DM.flush
  rw [if_neg (by rw [look_lt hd (by omega) (by omega)]; simp), hc]
  rfl
theorem good_flushed {d : DM} (h : d.good) : d.flushed.good := by
  obtain ⟨hw, hd, hs, hf, ho⟩ := h
  exact ⟨⟨hw.1, hw.2.1, keptAll_wf hw.2.2.2.2 hw.2.2.1, hw.2.2.2.1, fun _ h => (by cases h)⟩, hd, hs, hf, by simp [DM.flushed]; omega⟩
theorem putB_length (x : PutM) : (putB x).length ≤ 128 := by unfold putB; rw [List.length_replicate]; omega
theorem putCells_get (l : List PutM) (i : Nat) (hi : i < l.length) (j : Nat) (v : Value) (hv : [I l[i].at_, I l[i].byte, I l[i].many][j]? = some v) : (putCells l)[i * 3 + j]? = some v := by
  induction l generalizing i with
  | nil => simp at hi
  | cons x l ih =>
    have e : putCells (x :: l) = [I x.at_, I x.byte, I x.many] ++ putCells l := rfl
    rw [e]
    cases i with
    | zero =>
      have hj := (List.getElem?_eq_some_iff.1 hv).1
      rw [Nat.zero_mul, Nat.zero_add, List.getElem?_append_left (show j < [I x.at_, I x.byte, I x.many].length from hj)]; exact hv
    | succ i =>
      rw [List.getElem?_append_right (by simp only [List.length_cons, List.length_nil]; omega)]
      have : (i + 1) * 3 + j - [I x.at_, I x.byte, I x.many].length = i * 3 + j := by simp only [List.length_cons, List.length_nil]; omega
      rw [this]
      exact ih i (by simpa using hi) hv
theorem puts_snoc (d : DM) (l : List PutM) (x : PutM) : d.puts (l ++ [x]) = (d.puts l).put1 (x.at_ % 5) (putB x) := by
  unfold DM.puts; rw [List.foldl_append]; rfl
theorem good_puts {d : DM} (h : d.good) (l : List PutM) : (d.puts l).good := by
  induction l generalizing d with
  | nil => exact h
  | cons x l ih => exact ih (good_put1 h (putB_length x))
theorem good_new : (DM.new 5).good := ⟨⟨by decide, by decide, fun _ _ h => (by cases h), fun _ _ h => (by cases h), fun _ h => (by cases h)⟩, rfl, rfl, rfl, by decide⟩
/-- A disk's counts are small. -/
def DM.small (k : Nat) (d : DM) : Prop := d.opn.length ≤ k ∧ d.keep.length ≤ k ∧ 0 ≤ d.ops ∧ d.ops ≤ k
theorem DM.small.mono {k j : Nat} {d : DM} (h : d.small k) (hk : k ≤ j) : d.small j := ⟨by have := h.1; omega, by have := h.2.1; omega, h.2.2.1, by have := h.2.2.2; omega⟩
theorem small_count {k : Nat} {d : DM} (h : d.opn.length ≤ k + 1 ∧ d.keep.length ≤ k ∧ 0 ≤ d.ops ∧ d.ops ≤ k) : d.count.2.small (k + 1) := by
  unfold DM.count
  split
  · exact ⟨by simp [DM.fall], by simp [DM.fall], by simp [DM.fall]; omega, by simp [DM.fall]; omega⟩
  · exact ⟨by simp; omega, by simp; omega, by simp; omega, by simp; omega⟩
theorem small_write {k : Nat} {d : DM} (h : d.small k) (a : Int) (b : List UInt8) : (d.write a b).2.small (k + 1) := by
  unfold DM.write
  split
  · exact h.mono (by omega)
  · split
    · exact h.mono (by omega)
    · exact small_count ⟨by simp [DM.put]; exact h.1, h.2.1, h.2.2.1, h.2.2.2⟩
theorem small_flush {k : Nat} {d : DM} (h : d.small k) : d.flush.2.small (k + 1) := by
  have hc := small_count ⟨Nat.le_succ_of_le h.1, h.2.1, h.2.2.1, h.2.2.2⟩
  unfold DM.flush
  split
  · exact h.mono (by omega)
  · split
    · exact ⟨by simp, hc.2.1, hc.2.2.1, hc.2.2.2⟩
    · exact hc
theorem small_put1 {k : Nat} {d : DM} (h : d.small k) (a : Int) (b : List UInt8) : (d.put1 a b).small (k + 1) :=
  ⟨by simp [DM.put1, DM.put]; exact h.1, by have := h.2.1; simp [DM.put1, DM.put]; omega, by have := h.2.2.1; simp [DM.put1, DM.put]; omega, by have := h.2.2.2; simp [DM.put1, DM.put]; omega⟩
theorem small_puts {k : Nat} {d : DM} (h : d.small k) (l : List PutM) : (d.puts l).small (k + l.length) := by
  induction l generalizing k d with
  | nil => exact h
  | cons x l ih => exact (ih (small_put1 h _ _)).mono (by simp only [List.length_cons]; omega)
theorem small_flushed {k : Nat} {d : DM} (h : d.small k) : d.flushed.small (k + 1) :=
  ⟨by simp [DM.flushed], by have := h.2.1; simp [DM.flushed]; omega, by have := h.2.2.1; simp [DM.flushed]; omega, by have := h.2.2.2; simp [DM.flushed]; omega⟩
theorem small_crash {k : Nat} {d : DM} (h : d.small k) (l : List Int) : (d.crash l).small k := by
  unfold DM.crash DM.fall
  split
  · exact h
  · exact ⟨by simp, by simp, h.2.2.1, h.2.2.2⟩
theorem small_boot {k : Nat} {d : DM} (h : d.small k) : d.boot.small k := h
theorem small_new (n : Int) : (DM.new n).small 0 := ⟨by simp [DM.new], by simp [DM.new], by simp [DM.new], by simp [DM.new]⟩
end Go.Proofs.Yteflbohpabdjkaa
