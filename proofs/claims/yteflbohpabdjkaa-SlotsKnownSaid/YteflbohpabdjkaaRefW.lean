/-
  The reference's disk, told plainly, with the blocks of its sectors; and how it lies in memory.
-/
import Derived.Test.YteflbohpabdjkaaLawT
import Derived.Test.YteflbohpabdjkaaMwC
namespace Go.Proofs.Yteflbohpabdjkaa
open Go Go.Mw

/-- A sector's value: a slice of a block of its own. -/
def secV (b : Nat) : Value := .slice (some ⟨b, 0, none⟩) 128 128
structure RM where
  many : Int
  kept : List (Nat × List UInt8)
  opn : List (Int × Nat × List UInt8)
  dead : Bool
  ops : Int
  left : Int
  keep : List Int
def poolOf (l : List (Nat × List UInt8)) : List (Nat × List Value) := l.map fun x => (x.1, x.2.map B)
def refOpen (l : List (Int × Nat × List UInt8)) : List Value := l.flatMap fun x => [I x.1, secV x.2.1]
structure RM.ok (m : RM) (pool : List (Nat × List UInt8)) : Prop where
  kept : ∀ x ∈ m.kept, x ∈ pool
  opn : ∀ x ∈ m.opn, x.2 ∈ pool
  len : ∀ x ∈ pool, x.2.length = 128
  at_ : ∀ x ∈ m.opn, 0 ≤ x.1 ∧ x.1 < m.many
  many : 1 ≤ m.many ∧ m.many ≤ 65536
  klen : (m.kept.length : Int) ≤ m.many
def refCells (m : RM) (vk vo ve : Value) : List Value := [I m.many, vk, vo, .bool m.dead, I m.ops, I m.left, ve]
def refParts (q : Nat) (m : RM) (y : Value × Value × Value × List (Nat × List UInt8)) : List HP :=
  [blk q (refCells m y.1 y.2.1 y.2.2.1) 106, rowH 27 1 y.1 m.kept.length (m.kept.map fun x => secV x.1), rowH 108 2 y.2.1 m.opn.length (refOpen m.opn), rowH 3 1 y.2.2.1 m.keep.length (m.keep.map I), poolH 5 (poolOf y.2.2.2)]
def refH (q : Nat) (m : RM) : HP := exH fun y => star (pureH (m.ok y.2.2.2)) (starL (refParts q m y))
section
variable {w₀ w : World} {S : Nat → Prop} {rs : List HP} {q : Nat} {m : RM}
theorem Sep.openRef (h : Sep w₀ S (refH q m :: rs) w) : ∃ vk vo ve pool, m.ok pool ∧ Sep w₀ S (blk q (refCells m vk vo ve) 106 :: rowH 27 1 vk m.kept.length (m.kept.map fun x => secV x.1) :: rowH 108 2 vo m.opn.length (refOpen m.opn) :: rowH 3 1 ve m.keep.length (m.keep.map I) :: poolH 5 (poolOf pool) :: rs) w := by
  obtain ⟨⟨vk, vo, ve, pool⟩, h⟩ := h.ex0
  obtain ⟨hok, h⟩ := h.star0.pure0
  exact ⟨vk, vo, ve, pool, hok, h.parts⟩
theorem Sep.shutRef {vk vo ve : Value} {pool : List (Nat × List UInt8)} (hok : m.ok pool) (h : Sep w₀ S (blk q (refCells m vk vo ve) 106 :: rowH 27 1 vk m.kept.length (m.kept.map fun x => secV x.1) :: rowH 108 2 vo m.opn.length (refOpen m.opn) :: rowH 3 1 ve m.keep.length (m.keep.map I) :: poolH 5 (poolOf pool) :: rs) w) : Sep w₀ S (refH q m :: rs) w := by
  refine Sep.pack0 (p := fun y => star (pureH (m.ok y.2.2.2)) (starL (refParts q m y))) (vk, vo, ve, pool) (Sep.join0 (Sep.addPure hok ?_))
  exact Sep.bundle (l := refParts q m (vk, vo, ve, pool)) h
theorem poolOf_mem {pool : List (Nat × List UInt8)} {x : Nat × List UInt8} (h : x ∈ pool) : (x.1, x.2.map B) ∈ poolOf pool := List.mem_map.2 ⟨x, h, rfl⟩
theorem refOpen_get (l : List (Int × Nat × List UInt8)) (i : Nat) (hi : i < l.length) (j : Nat) (v : Value) (hv : [I l[i].1, secV l[i].2.1][j]? = some v) : (refOpen l)[i * 2 + j]? = some v := by
  induction l generalizing i with
  | nil => simp at hi
  | cons x l ih =>
    have e : refOpen (x :: l) = [I x.1, secV x.2.1] ++ refOpen l := rfl
    rw [e]
    cases i with
    | zero =>
      have hj := (List.getElem?_eq_some_iff.1 hv).1
      rw [Nat.zero_mul, Nat.zero_add, List.getElem?_append_left (show j < [I x.1, secV x.2.1].length from hj)]; exact hv
    | succ i =>
      rw [List.getElem?_append_right (by simp only [List.length_cons, List.length_nil]; omega)]
      have : (i + 1) * 2 + j - [I x.1, secV x.2.1].length = i * 2 + j := by simp only [List.length_cons, List.length_nil]; omega
      rw [this]
      exact ih i (by simpa using hi) hv
end
/-- A list of sectors that is as long as it must be, one of them turned. -/
def setK (l fills : List (Nat × List UInt8)) (at_ : Nat) (x : Nat × List UInt8) : List (Nat × List UInt8) := (l ++ fills).set at_ x
def zeroSec : List UInt8 := List.replicate 128 0
theorem zero_map : zeroSec.map B = List.replicate 128 (Value.int .u8 0) := by unfold zeroSec; rw [List.map_replicate]; rfl
theorem zero_len : zeroSec.length = 128 := by unfold zeroSec; rw [List.length_replicate]
/-- What sectors stand, by their numbers. -/
def kf (l : List (Nat × List UInt8)) : Int → List UInt8 := fun k => if 0 ≤ k then ((l[k.toNat]?).map (·.2)).getD zeroSec else zeroSec
def setT (f : Int → List UInt8) (k : Int) (b : List UInt8) : Int → List UInt8 := fun x => if x = k then b else f x
def keptT (keep : List Int) : (i : Nat) → List (Int × List UInt8) → (Int → List UInt8) → Int → List UInt8
  | _, [], f => f
  | i, x :: l, f => keptT keep (i + 1) l (if keep.contains (i : Int) then setT f x.1 x.2 else f)
def allT : List (Int × List UInt8) → (Int → List UInt8) → Int → List UInt8
  | [], f => f
  | x :: l, f => allT l (setT f x.1 x.2)
/-- The reference's disk, without its blocks. -/
structure AM where
  many : Int
  kf : Int → List UInt8
  opn : List (Int × List UInt8)
  dead : Bool
  ops : Int
  left : Int
  keep : List Int
def RM.abs (m : RM) : AM := ⟨m.many, Go.Proofs.Yteflbohpabdjkaa.kf m.kept, m.opn.map fun x => (x.1, x.2.2), m.dead, m.ops, m.left, m.keep⟩
namespace AM
def fall (a : AM) (keep : List Int) : AM := { a with kf := keptT keep 0 a.opn a.kf, opn := [], dead := true, left := 0, keep := [] }
def counts (a : AM) : AM := { a with ops := a.ops + 1, left := a.left - 1 }
def fails (a : AM) : Bool := decide (a.left - 1 = 0)
def put (a : AM) (at_ : Int) (b : List UInt8) : AM := { a with opn := a.opn ++ [(at_, pad b)] }
def look (a : AM) (at_ : Int) : Int := if a.dead then 290 else if at_ < 0 ∨ a.many ≤ at_ then 6 else 0
def op (a : AM) : Int × AM := if a.fails then (290, a.counts.fall a.keep) else (0, a.counts)
def write (a : AM) (at_ : Int) (b : List UInt8) : Int × AM := if a.look at_ ≠ 0 then (a.look at_, a) else if 128 < b.length then (5, a) else (a.put at_ b).op
def sec (a : AM) (at_ : Int) : List UInt8 := allT a.opn a.kf at_
def read (a : AM) (at_ : Int) : Option (List UInt8) × Int := if a.look at_ ≠ 0 then (none, a.look at_) else (some (a.sec at_), 0)
def flush (a : AM) : Int × AM := if a.dead then (290, a) else if a.fails then a.op else (0, { a.counts with kf := allT a.opn a.kf, opn := [] })
def fail (a : AM) (ops : Int) (keep : List Int) : AM := if a.dead then a else { a with left := max ops 0, keep := keep }
def crash (a : AM) (keep : List Int) : AM := if a.dead then a else a.fall keep
def boot (a : AM) : AM := { a with dead := false }
end AM
/-- How it lies in memory. -/
def refA (q : Nat) (a : AM) : HP := exH fun m : RM => star (pureH (m.abs = a)) (refH q m)
theorem Sep.openA {w₀ w : World} {S : Nat → Prop} {rs : List HP} {q : Nat} {a : AM} (h : Sep w₀ S (refA q a :: rs) w) : ∃ m : RM, m.abs = a ∧ Sep w₀ S (refH q m :: rs) w := by
  obtain ⟨m, h⟩ := h.ex0
  obtain ⟨hm, h⟩ := h.star0.pure0
  exact ⟨m, hm, h⟩
theorem Sep.shutA {w₀ w : World} {S : Nat → Prop} {rs : List HP} {q : Nat} {m : RM} (h : Sep w₀ S (refH q m :: rs) w) : Sep w₀ S (refA q m.abs :: rs) w :=
  Sep.pack0 (p := fun n : RM => star (pureH (n.abs = m.abs)) (refH q n)) m (Sep.join0 (Sep.addPure rfl h))
theorem kf_set {l fills : List (Nat × List UInt8)} {at_ : Nat} {x : Nat × List UInt8} (hz : ∀ z ∈ fills, z.2 = zeroSec) (hlt : at_ < l.length + fills.length) : kf (setK l fills at_ x) = setT (kf l) at_ x.2 := by
  funext k
  unfold kf setT setK
  by_cases hk : 0 ≤ k
  · simp only [if_pos hk]
    obtain ⟨j, rfl⟩ : ∃ j : Nat, k = j := ⟨k.toNat, by omega⟩
    rw [Int.toNat_natCast, List.getElem?_set]
    by_cases hj : at_ = j
    · subst hj
      rw [if_pos rfl, if_pos (by rw [List.length_append]; exact hlt), if_pos rfl]
      rfl
    · rw [if_neg hj, if_neg (by omega), List.getElem?_append]
      split
      · rfl
      · rename_i hge
        rw [List.getElem?_eq_none (l := l) (by omega)]
        cases hq : fills[j - l.length]? with
        | none => rfl
        | some z => rw [Option.map_some, Option.getD_some, hz z (List.mem_of_getElem? hq)]; rfl
  · simp only [if_neg hk, if_neg (show ¬ k = (at_ : Int) by omega)]
end Go.Proofs.Yteflbohpabdjkaa
/-
  The reference's small functions, walked.
-/
namespace Go.Proofs.Yteflbohpabdjkaa
open Go Go.Mw
set_option maxRecDepth 4000

theorem full_step {l : List UInt8} {i : Nat} (hi : i < l.length) (hl : l.length ≤ 128) : ((l.take i).map B ++ List.replicate (128 - i) (Value.int .u8 0)).set i (B l[i]) = (l.take (i + 1)).map B ++ List.replicate (128 - (i + 1)) (Value.int .u8 0) := by
  obtain ⟨k, hk⟩ : ∃ k, 128 - i = k + 1 := ⟨128 - (i + 1), by omega⟩
  have hk2 : 128 - (i + 1) = k := by omega
  have hlen : ((l.take i).map B).length = i := by simp; omega
  rw [hk, hk2, List.set_append_right _ _ (by omega), hlen, Nat.sub_self, List.replicate_succ, List.set_cons_zero, List.take_succ_eq_append_getElem hi, List.map_append, List.append_assoc]
  rfl
section
variable {w w₀ : World} {S : Nat → Prop} {rs : List HP}
theorem full_ok {A : Option Addr} {c : Nat} {l : List UInt8} (hr : RowAt w A l.length 1 (l.map B)) (hl : l.length ≤ 128) : Rets Try.prog 69 [.slice A l.length c] w fun v w' => ∃ b, v = secV b ∧ True ∧ Turn noB (blk b ((pad l).map B) 5) w w' := by
  have H := Sep.start0 w
  refine rets1 Try.func69 rfl rfl rfl rfl ?_
  refine FW_seq ?_
  refine FW_region ?_
  refine FL_assign (h := ?_)
  refine FL_nil (Qseq_normal ?_)
  refine FW_seq ?_
  refine FW_region ?_
  refine FL_make1 H (k := 128) (by decide) (by decide) (h := ?_)
  intro bb w3 H3 _
  refine FL_assign (h := ?_)
  refine FL_nil (Qseq_normal ?_)
  refine FW_seq ?_
  refine FW_seq ?_
  refine FW_region ?_
  refine FL_assign (h := ?_)
  refine FL_nil (Qseq_normal ?_)
  refine FW_block ?_
  refine FW_loop' (fun i : Nat => [(0, .slice A l.length c), (3, .slice (some ⟨bb, 0, none⟩) 128 128), (4, I i)])
    (fun i w' => i ≤ l.length ∧ Sep w noB [blk bb ((l.take i).map B ++ List.replicate (128 - i) (Value.int .u8 0)) 5] w') (fun i _ => l.length - i) 0 ⟨rfl, rfl, rfl, trivial⟩ ⟨Nat.zero_le _, H3⟩ (fun i τ w7 hI => ?_)
  obtain ⟨hi, H7⟩ := hI
  try simp only [upds, like, upd_ds, und_ds]
  refine FW_seq ?_
  refine FW_seq ?_
  refine FW_region ?_
  refine FL_move (h := ?_)
  refine FL_move (h := ?_)
  refine FL_val (Gives.lenSlice rfl) rfl ?_
  refine FL_val (Gives.lss rfl rfl) rfl ?_
  refine FL_nil (Qseq_normal ?_)
  first | refine FW_condP rfl (fun hc12 => ?_) (fun hc12 => ?_) | refine FW_cond rfl (fun hc12 => ?_) (fun hc12 => ?_)
  · skip
    have hlt : i < l.length := by omega
    obtain ⟨ad, hA, hcell⟩ := (hr.keep H7.kept).at_ (by omega)
    subst hA
    refine FW_skip (Qseq_normal ?_)
    refine FW_seq ?_
    refine FW_block ?_
    refine FW_region ?_
    refine FL_move (h := ?_)
    refine FL_move (h := ?_)
    refine FL_move (h := ?_)
    refine FL_move (h := ?_)
    refine FL_val (Gives.idx rfl rfl hlt) rfl ?_
    refine FL_loadC (hcell (i * 1) (B l[i]) (by simp [hlt])) (h := ?_)
    refine FL_val (Gives.idxB rfl rfl (by omega)) rfl ?_
    refine FL_store H7 (hy := by exact rfl) (hat := At0) (cs' := (l.take (i + 1)).map B ++ List.replicate (128 - (i + 1)) (Value.int .u8 0)) (ho := by simp; omega) (hs := full_step hlt hl) (h := ?_)
    intro w22 H22
    refine FL_nil (Qblk_normal (Qseq_normal ?_))
    refine FW_region ?_
    refine FL_move (h := ?_)
    first | refine FL_val (Gives.addI rfl rfl rfl (by omega)) rfl ?_ | refine FL_val (Gives.add rfl rfl) rfl ?_
    refine FL_assign (h := ?_)
    refine FL_nil ?_
    exact Qround_normal (i + 1) ⟨rfl, rfl, rfl, trivial⟩ ⟨by omega, H22⟩ (by omega)
  · skip
    have hie : i = l.length := by omega
    subst hie
    refine FW_exit (Qseq_exit (Qround_exit (Qblk_exit (Qseq_normal ?_))))
    refine FW_seq ?_
    refine FW_region ?_
    refine FL_move (h := ?_)
    refine FL_assign (h := ?_)
    refine FL_nil (Qseq_normal ?_)
    refine FW_ret (Qfn_ret (hR := ?_))
    refine ⟨bb, rfl, trivial, ?_⟩
    have e : (pad l).map B = (l.take l.length).map B ++ List.replicate (128 - l.length) (Value.int .u8 0) := by
      unfold pad
      rw [List.map_append, List.take_length, List.map_replicate]
      rfl
    rw [e]
    exact H7.turn
theorem set_ok {A : Option Addr} {c : Nat} {l : List (Nat × List UInt8)} {at_ b : Nat} (x : Nat × List UInt8) (hx : x.1 = b) (hr : RowAt w A l.length 1 (l.map fun x => secV x.1)) (hl : l.length ≤ 65536) (ha : at_ < 65536) :
    Rets Try.prog 72 [.slice A l.length c, I at_, secV b] w fun v w' => ∃ y : Value × List (Nat × List UInt8), v = y.1 ∧ (l.length + y.2.length = max l.length (at_ + 1) ∧ ∀ z ∈ y.2, z.2 = zeroSec) ∧
      Turn noB (star (rowH 27 1 y.1 (setK l y.2 at_ x).length ((setK l y.2 at_ x).map fun x => secV x.1)) (poolH 5 (poolOf y.2.reverse))) w w' := by
  have H := Sep.start0 w
  have hone : ∀ u ∈ l.map fun x => secV x.1, u.oneCell' = true := by
    intro u hu
    obtain ⟨y, _, rfl⟩ := List.mem_map.1 hu; rfl
  refine rets3 Try.func72 rfl rfl rfl rfl ?_
  refine FW_seq ?_
  refine FW_region ?_
  refine FL_assign (h := ?_)
  refine FL_nil (Qseq_normal ?_)
  refine FW_seq ?_
  refine FW_region ?_
  refine FL_assign (h := ?_)
  refine FL_nil (Qseq_normal ?_)
  refine FW_seq ?_
  refine FW_region ?_
  refine FL_move (h := ?_)
  refine FL_move (h := ?_)
  refine FL_append (H.nilRow 27 1) (hx := by exact rfl) (hy := by exact rfl) (hat := At0) hr hone (h63 := by unfold maxLen; omega) (hbytes := by omega) (h := fun v7 w6 H6 => ?_)
  refine FL_assign (h := ?_)
  refine FL_nil (Qseq_normal ?_)
  refine FW_seq ?_
  refine FW_block ?_
  rw [Nat.zero_add, List.nil_append] at H6
  refine FW_loop' (fun y : Value × List (Nat × List UInt8) => [(1, I at_), (2, secV b), (7, y.1)])
    (fun y w' => (l.length + y.2.length ≤ max l.length (at_ + 1) ∧ ∀ z ∈ y.2, z.2 = zeroSec) ∧ Sep w noB [rowH 27 1 y.1 (l ++ y.2).length ((l ++ y.2).map fun x => secV x.1), poolH 5 (poolOf y.2.reverse)] w') (fun y _ => at_ + 1 - (l.length + y.2.length)) (v7, []) ⟨rfl, rfl, rfl, trivial⟩ ⟨⟨by simp only [List.length_nil]; omega, fun _ h => by cases h⟩, by rw [List.append_nil]; exact ((H6.poolNil 5).front1)⟩ (fun y τ w9 hI => ?_)
  obtain ⟨v7, fills⟩ := y
  obtain ⟨⟨hf, hz⟩, H9⟩ := hI
  dsimp only at hf hz H9
  obtain ⟨A7, c7, h7, _⟩ := Sep.rowForm H9 At0
  subst h7
  try simp only [upds, like, upd_ds, und_ds]
  refine FW_seq ?_
  refine FW_seq ?_
  refine FW_region ?_
  refine FL_move (h := ?_)
  refine FL_val (Gives.lenSlice rfl) rfl ?_
  refine FL_move (h := ?_)
  refine FL_val (Gives.leq rfl rfl) rfl ?_
  refine FL_nil (Qseq_normal ?_)
  first | refine FW_condP rfl (fun hc14 => ?_) (fun hc14 => ?_) | refine FW_cond rfl (fun hc14 => ?_) (fun hc14 => ?_)
  · skip
    have hlt : l.length + fills.length ≤ at_ := by simp only [List.length_append] at hc14; omega
    refine FW_skip (Qseq_normal ?_)
    refine FW_block ?_
    refine FW_region ?_
    refine FL_move (h := ?_)
    refine FL_make1 H9 (k := 128) (by decide) (by decide) (h := ?_)
    intro bb w18 H18 _
    refine FL_buildSlice H18 (Elems.one (v := secV bb) rfl rfl Elems.nil) rfl rfl rfl (fun b19 w20 H20 _ => ?_)
    refine FL_append H20 (hx := by exact rfl) (hy := by exact rfl) (hat := At2) (H20.blkRow At0 (m := 1) (s := 1) rfl) (by intro u hu; rw [List.mem_singleton.1 hu]; rfl) (h63 := by simp only [List.length_append]; unfold maxLen; omega) (hbytes := by simp only [List.length_append]; omega) (h := fun vv w22 H22 => ?_)
    refine FL_assign (h := ?_)
    refine FL_nil (Qblk_normal ?_)
    have H2 := H22.drop0.front2.front1
    rw [← zero_map] at H2
    refine Qround_normal (vv, fills ++ [(bb, zeroSec)]) ⟨rfl, rfl, rfl, trivial⟩ ⟨⟨by simp only [List.length_append, List.length_singleton]; omega, fun z hz' => ?_⟩, ?_⟩ (by simp only [List.length_append, List.length_singleton]; omega)
    · rcases List.mem_append.1 hz' with h | h
      · exact hz z h
      · rw [List.mem_singleton.1 h]
    · have e1 : poolOf (fills ++ [(bb, zeroSec)]).reverse = (bb, zeroSec.map B) :: poolOf fills.reverse := by rw [List.reverse_append]; rfl
      have e2 : (l ++ (fills ++ [(bb, zeroSec)])).length = (l ++ fills).length + 1 := by simp only [List.length_append, List.length_singleton]; omega
      have e3 : (l ++ (fills ++ [(bb, zeroSec)])).map (fun x => secV x.1) = (l ++ fills).map (fun x => secV x.1) ++ [secV bb] := by simp only [List.map_append, List.map_cons, List.map_nil, List.append_assoc]
      dsimp only
      rw [e1, e2, e3]
      exact (Sep.poolCons H2).front1
  · skip
    have hge : at_ < l.length + fills.length := by simp only [List.length_append] at hc14; omega
    obtain ⟨g, cg, rest, hg, hcg, hlg, hle, hmx, HO⟩ := Sep.rowOpen H9 At0 (by simp only [List.length_append]; omega)
    injection hg with hg1 _ hg2
    subst hg1 hg2
    refine FW_exit (Qseq_exit (Qround_exit (Qblk_exit (Qseq_normal ?_))))
    refine FW_seq ?_
    refine FW_region ?_
    refine FL_move (h := ?_)
    refine FL_move (h := ?_)
    refine FL_move (h := ?_)
    refine FL_val (Gives.idxB rfl rfl (by simp only [List.length_append]; omega)) rfl ?_
    refine FL_store HO (hat := At0) (cs' := ((setK l fills at_ x).map fun x => secV x.1) ++ rest) (ho := by simp only [List.length_append, List.length_map]; exact Nat.ble_eq_true_of_le (by omega)) (hs := by unfold setK; rw [List.map_set, hx]; exact set_front (by simp only [List.length_map, List.length_append]; omega)) (h := ?_)
    intro w31 H31
    refine FL_nil (Qseq_normal ?_)
    refine FW_seq ?_
    refine FW_region ?_
    refine FL_move (h := ?_)
    refine FL_assign (h := ?_)
    refine FL_nil (Qseq_normal ?_)
    refine FW_ret (Qfn_ret (hR := ?_))
    refine ⟨(.slice (some ⟨g, 0, none⟩) (l ++ fills).length c7, fills), rfl, ⟨by simp only; omega, hz⟩, ?_⟩
    dsimp only at H31 ⊢
    have hsl : (setK l fills at_ x).length = (l ++ fills).length := by unfold setK; rw [List.length_set]
    rw [hsl]
    have H3 := Sep.rowShut H31 At0 (s := 1) (n := (l ++ fills).length) (c := c7) (by rw [List.length_append, List.length_map, hsl]; rw [List.length_append, List.length_map] at hcg; exact hcg) (by rw [List.length_map, hsl]; omega) hle hmx
    exact (Sep.join0 H3).turn
end
end Go.Proofs.Yteflbohpabdjkaa
/-
  The reference's disk: counts and fall, walked.
-/
namespace Go.Proofs.Yteflbohpabdjkaa
open Go Go.Mw
set_option maxRecDepth 8000

section
variable {q : Nat} {a : AM} {F : Nat → Prop} {w w₀ : World} {S : Nat → Prop} {rs : List HP}
theorem counts_ok (hb : fits (a.ops + 1) ∧ fits (a.left - 1)) (h : (refA q a).ok F w) : Rets Try.prog 70 [.pointer (some ⟨q, 0, none⟩)] w fun v w' => v = .bool a.fails ∧ Turn F (refA q a.counts) w w' := by
  obtain ⟨m, rfl, H⟩ := Sep.openA (Sep.start1 h)
  obtain ⟨vk, vo, ve, pool, hok, H⟩ := Sep.openRef H
  obtain ⟨hb1, hb2⟩ := hb
  unfold fits at hb1 hb2
  have e1 : m.abs.ops = m.ops := rfl
  have e2 : m.abs.left = m.left := rfl
  rw [e1] at hb1
  rw [e2] at hb2
  refine rets1 Try.func70 rfl rfl rfl rfl ?_
  refine FW_seq ?_
  refine FW_region ?_
  refine FL_assign (h := ?_)
  refine FL_nil (Qseq_normal ?_)
  refine FW_seq ?_
  refine FW_region ?_
  refine FL_move (h := ?_)
  refine FL_move (h := ?_)
  refine FL_val (Gives.nilCheck rfl) rfl ?_
  first | refine FL_val (Gives.field0 rfl) rfl ?_ | refine FL_val (Gives.field rfl) rfl ?_ | refine FL_val (Gives.fieldA rfl) rfl ?_
  refine FL_load H (h := ?_)
  first | refine FL_val (Gives.addI rfl rfl rfl (by omega)) rfl ?_ | refine FL_val (Gives.add rfl rfl) rfl ?_
  refine FL_val (Gives.nilCheck rfl) rfl ?_
  first | refine FL_val (Gives.field0 rfl) rfl ?_ | refine FL_val (Gives.field rfl) rfl ?_ | refine FL_val (Gives.fieldA rfl) rfl ?_
  refine FL_store H (h := ?_)
  intro w11 H11
  refine FL_nil (Qseq_normal ?_)
  refine FW_seq ?_
  refine FW_region ?_
  refine FL_move (h := ?_)
  refine FL_move (h := ?_)
  refine FL_val (Gives.nilCheck rfl) rfl ?_
  first | refine FL_val (Gives.field0 rfl) rfl ?_ | refine FL_val (Gives.field rfl) rfl ?_ | refine FL_val (Gives.fieldA rfl) rfl ?_
  refine FL_load H11 (h := ?_)
  first | refine FL_val (Gives.subI rfl rfl rfl (by omega)) rfl ?_ | refine FL_val (Gives.sub rfl rfl) rfl ?_
  refine FL_val (Gives.nilCheck rfl) rfl ?_
  first | refine FL_val (Gives.field0 rfl) rfl ?_ | refine FL_val (Gives.field rfl) rfl ?_ | refine FL_val (Gives.fieldA rfl) rfl ?_
  refine FL_store H11 (h := ?_)
  intro w21 H21
  refine FL_nil (Qseq_normal ?_)
  refine FW_seq ?_
  refine FW_region ?_
  refine FL_move (h := ?_)
  refine FL_val (Gives.nilCheck rfl) rfl ?_
  first | refine FL_val (Gives.field0 rfl) rfl ?_ | refine FL_val (Gives.field rfl) rfl ?_ | refine FL_val (Gives.fieldA rfl) rfl ?_
  refine FL_load H21 (h := ?_)
  refine FL_val (Gives.eql rfl rfl) rfl ?_
  refine FL_assign (h := ?_)
  refine FL_nil (Qseq_normal ?_)
  refine FW_ret (Qfn_ret (hR := ?_))
  exact ⟨rfl, (Sep.shutA (m := { m with ops := m.ops + 1, left := m.left - 1 }) (Sep.shutRef ⟨hok.kept, hok.opn, hok.len, hok.at_, hok.many, hok.klen⟩ H21)).turn⟩
theorem keptT_snoc (keep : List Int) : ∀ (k : Nat) (l : List (Int × List UInt8)) (x : Int × List UInt8) (f : Int → List UInt8), keptT keep k (l ++ [x]) f = if keep.contains ((k + l.length : Nat) : Int) then setT (keptT keep k l f) x.1 x.2 else keptT keep k l f
  | k, [], x, f => by simp only [List.nil_append, keptT, List.length_nil, Nat.add_zero]
  | k, y :: l, x, f => by
    have e : k + (y :: l).length = k + 1 + l.length := by simp only [List.length_cons]; omega
    simp only [List.cons_append, keptT, keptT_snoc keep (k + 1) l x, e]
theorem setT_same (f : Int → List UInt8) (a : Int) (b : List UInt8) : setT (setT f a b) a b = setT f a b := by
  funext j
  unfold setT
  split <;> rfl
def opsR (l : List (Int × Nat × List UInt8)) : List (Int × List UInt8) := l.map fun x => (x.1, x.2.2)
theorem opsR_snoc {keep : List Int} {l : List (Int × Nat × List UInt8)} {f : Int → List UInt8} {i : Nat} (h : i < l.length) :
    keptT keep 0 (opsR (l.take (i + 1))) f = if keep.contains (i : Int) then setT (keptT keep 0 (opsR (l.take i)) f) l[i].1 l[i].2.2 else keptT keep 0 (opsR (l.take i)) f := by
  have e : opsR (l.take (i + 1)) = opsR (l.take i) ++ [(l[i].1, l[i].2.2)] := by
    unfold opsR
    rw [List.take_succ_eq_append_getElem h, List.map_append]
    rfl
  rw [e, keptT_snoc]
  have hl : (opsR (l.take i)).length = i := by
    unfold opsR
    rw [List.length_map, List.length_take]
    omega
  rw [hl, Nat.zero_add]
theorem ok_set {m : RM} {pool fills kept : List (Nat × List UInt8)} {x : Int × Nat × List UInt8} {an : Nat} (hok : RM.ok { m with kept := kept } pool) (hx : x ∈ m.opn) (hxa : x.1 = an) (hfl : kept.length + fills.length = max kept.length (an + 1)) (hz : ∀ z ∈ fills, z.2 = zeroSec) :
    RM.ok { m with kept := setK kept fills an x.2 } (fills.reverse ++ pool) := by
  have hat := hok.at_ x hx
  refine ⟨fun y hy => ?_, fun y hy => List.mem_append_right _ (hok.opn y hy), fun y hy => ?_, hok.at_, hok.many, ?_⟩
  · rcases List.mem_or_eq_of_mem_set hy with h | h
    · rcases List.mem_append.1 h with h | h
      · exact List.mem_append_right _ (hok.kept y h)
      · exact List.mem_append_left _ (List.mem_reverse.2 h)
    · subst h
      exact List.mem_append_right _ (hok.opn x hx)
  · rcases List.mem_append.1 hy with h | h
    · rw [hz y (List.mem_reverse.1 h)]; exact zero_len
    · exact hok.len y h
  · have hk := hok.klen
    simp only at hk hat ⊢
    unfold setK
    rw [List.length_set, List.length_append]
    omega
set_option maxHeartbeats 4000000 in
theorem fallR_ok {m : RM} {y : Value × Value × Value × List (Nat × List UInt8)} {A : Option Addr} {c : Nat} {keep : List Int} (hok : m.ok y.2.2.2) (hkl : (keep.length : Int) ≤ 1000000) (hol : (m.opn.length : Int) ≤ 1000000) (h : (starL (refParts q m y)).ok F w)
    (hst : ∀ w' l1 l2, Sep w F (l1 ++ rowH 3 1 y.2.2.1 m.keep.length (m.keep.map I) :: l2) w' → RowAt w' A keep.length 1 (keep.map I)) :
    Rets Try.prog 71 [.pointer (some ⟨q, 0, none⟩), .slice A keep.length c] w fun v w' => v = .tuple #[] ∧ Turn F (refA q (m.abs.fall keep)) w w' := by
  obtain ⟨vk, vo, ve, pool⟩ := y
  have H := (Sep.start1 h).parts
  unfold refParts at H
  dsimp only at hok hst
  obtain ⟨Ao, co, ho, _⟩ := H.rowForm At2
  dsimp only at ho
  subst ho
  refine rets2 Try.func71 rfl rfl rfl rfl ?_
  refine FW_seq ?_
  refine FW_seq ?_
  refine FW_region ?_
  refine FL_assign (h := ?_)
  refine FL_nil (Qseq_normal ?_)
  refine FW_block ?_
  refine FW_loop' (fun x : Nat × Value × List (Nat × List UInt8) × List (Nat × List UInt8) => [(0, .pointer (some ⟨q, 0, none⟩)), (1, .slice A keep.length c), (4, I x.1)])
    (fun x w' => x.1 ≤ m.opn.length ∧ RM.ok { m with kept := x.2.2.1 } x.2.2.2 ∧ kf x.2.2.1 = keptT keep 0 (opsR (m.opn.take x.1)) (kf m.kept) ∧ Sep w F (blk q (refCells m x.2.1 (.slice Ao m.opn.length co) ve) 106 :: rowH 27 1 x.2.1 x.2.2.1.length (x.2.2.1.map fun x => secV x.1) :: rowH 108 2 (.slice Ao m.opn.length co) m.opn.length (refOpen m.opn) :: rowH 3 1 ve m.keep.length (m.keep.map I) :: poolH 5 (poolOf x.2.2.2) :: []) w') (fun x _ => m.opn.length - x.1) (0, vk, m.kept, pool) ⟨rfl, rfl, rfl, trivial⟩ ⟨Nat.zero_le _, hok, rfl, H⟩ (fun x τ w3 hI => ?_)
  obtain ⟨i, vk1, kept1, pool1⟩ := x
  obtain ⟨hi, hok1, hkf1, H3⟩ := hI
  dsimp only at hi hok1 hkf1 H3
  try simp only [upds, like, upd_ds, und_ds]
  refine FW_seq ?_
  refine FW_seq ?_
  refine FW_region ?_
  refine FL_move (h := ?_)
  refine FL_move (h := ?_)
  refine FL_val (Gives.nilCheck rfl) rfl ?_
  first | refine FL_val (Gives.field0 rfl) rfl ?_ | refine FL_val (Gives.field rfl) rfl ?_ | refine FL_val (Gives.fieldA rfl) rfl ?_
  refine FL_load H3 (h := ?_)
  refine FL_val (Gives.lenSlice rfl) rfl ?_
  refine FL_val (Gives.lss rfl rfl) rfl ?_
  refine FL_nil (Qseq_normal ?_)
  first | refine FW_condP rfl (fun hc11 => ?_) (fun hc11 => ?_) | refine FW_cond rfl (fun hc11 => ?_) (fun hc11 => ?_)
  · skip
    have hlt : i < m.opn.length := by omega
    have hor := Sep.rowAt H3 At2
    obtain ⟨ad, hAd, _⟩ := hor.at_ (by omega)
    subst hAd
    have hmem := List.getElem_mem hlt
    obtain ⟨an, han⟩ : ∃ an : Nat, m.opn[i].1 = an := ⟨m.opn[i].1.toNat, by have := hok.at_ _ hmem; omega⟩
    refine FW_skip (Qseq_normal ?_)
    refine FW_seq ?_
    refine FW_block ?_
    refine FW_seq ?_
    refine FW_region ?_
    refine FL_assign (h := ?_)
    refine FL_nil (Qseq_normal ?_)
    refine FW_block ?_
    refine FW_loop' (fun y : Nat × Value × List (Nat × List UInt8) × List (Nat × List UInt8) => [(0, .pointer (some ⟨q, 0, none⟩)), (1, .slice A keep.length c), (4, I i), (5, I y.1)])
      (fun y w' => y.1 ≤ keep.length ∧ RM.ok { m with kept := y.2.2.1 } y.2.2.2 ∧ kf y.2.2.1 = (if (keep.take y.1).contains (i : Int) then setT (keptT keep 0 (opsR (m.opn.take i)) (kf m.kept)) m.opn[i].1 m.opn[i].2.2 else keptT keep 0 (opsR (m.opn.take i)) (kf m.kept)) ∧ Sep w F (blk q (refCells m y.2.1 (.slice (some ad) m.opn.length co) ve) 106 :: rowH 27 1 y.2.1 y.2.2.1.length (y.2.2.1.map fun x => secV x.1) :: rowH 108 2 (.slice (some ad) m.opn.length co) m.opn.length (refOpen m.opn) :: rowH 3 1 ve m.keep.length (m.keep.map I) :: poolH 5 (poolOf y.2.2.2) :: []) w') (fun y _ => keep.length - y.1) (0, vk1, kept1, pool1) ⟨rfl, rfl, rfl, rfl, trivial⟩ ⟨Nat.zero_le _, hok1, by rw [hkf1, List.take_zero, if_neg (by simp)], H3⟩ (fun y τ w15 hI => ?_)
    obtain ⟨k, vk2, kept2, pool2⟩ := y
    obtain ⟨hk1, hok2, hkf2, H15⟩ := hI
    dsimp only at hk1 hok2 hkf2 H15
    obtain ⟨Ak2, ck2, hvk2, _⟩ := Sep.rowForm H15 At1
    subst hvk2
    try simp only [upds, like, upd_ds]
    refine FW_seq ?_
    refine FW_seq ?_
    refine FW_region ?_
    refine FL_move (h := ?_)
    refine FL_move (h := ?_)
    refine FL_val (Gives.lenSlice rfl) rfl ?_
    refine FL_val (Gives.lss rfl rfl) rfl ?_
    refine FL_nil (Qseq_normal ?_)
    first | refine FW_condP rfl (fun hc20 => ?_) (fun hc20 => ?_) | refine FW_cond rfl (fun hc20 => ?_) (fun hc20 => ?_)
    · skip
      have hkt : k < keep.length := by omega
      obtain ⟨kd, hKd, hkc⟩ := (hst _ [_, _, _] _ H15).at_ (by omega)
      subst hKd
      refine FW_skip (Qseq_normal ?_)
      refine FW_seq ?_
      refine FW_block ?_
      refine FW_seq ?_
      refine FW_region ?_
      refine FL_move (h := ?_)
      refine FL_move (h := ?_)
      refine FL_val (Gives.idx rfl rfl hkt) rfl ?_
      refine FL_loadC (hkc (k * 1) (I keep[k]) (by simp [hkt])) (h := ?_)
      refine FL_move (h := ?_)
      refine FL_val (Gives.eql rfl rfl) rfl ?_
      refine FL_nil (Qseq_normal ?_)
      first | refine FW_condP rfl (fun hc28 => ?_) (fun hc28 => ?_) | refine FW_cond rfl (fun hc28 => ?_) (fun hc28 => ?_)
      · skip
        have hki := hc28
        refine FW_drawS rfl H15 (h := fun hok30 w32 H32 => ?_)
        refine FGmove hok30 0 (h := ?_)
        refine FGmove hok30 1 (h := ?_)
        refine FGp hok30 2 rfl rfl (fun _ => (Gives.nilCheck rfl)) (by kernel_rfl) ?_
        first | refine FGp hok30 3 rfl rfl (fun _ => (Gives.field0 rfl)) (by kernel_rfl) ?_ | refine FGp hok30 3 rfl rfl (fun _ => (Gives.field rfl)) (by kernel_rfl) ?_ | refine FGp hok30 3 rfl rfl (fun _ => (Gives.fieldA rfl)) (by kernel_rfl) ?_
        refine FGload hok30 4 H32 (h := ?_)
        refine FGmove hok30 5 (h := ?_)
        refine FGp hok30 6 rfl rfl (fun _ => (Gives.nilCheck rfl)) (by kernel_rfl) ?_
        first | refine FGp hok30 7 rfl rfl (fun _ => (Gives.field0 rfl)) (by kernel_rfl) ?_ | refine FGp hok30 7 rfl rfl (fun _ => (Gives.field rfl)) (by kernel_rfl) ?_ | refine FGp hok30 7 rfl rfl (fun _ => (Gives.fieldA rfl)) (by kernel_rfl) ?_
        refine FGload hok30 8 H32 (h := ?_)
        refine FGmove hok30 9 (h := ?_)
        refine FGp hok30 10 rfl rfl (fun _ => (Gives.idx rfl rfl hlt)) (by kernel_rfl) ?_
        first | refine FGp hok30 11 rfl rfl (fun _ => (Gives.field0 rfl)) (by kernel_rfl) ?_ | refine FGp hok30 11 rfl rfl (fun _ => (Gives.field rfl)) (by kernel_rfl) ?_ | refine FGp hok30 11 rfl rfl (fun _ => (Gives.fieldA rfl)) (by kernel_rfl) ?_
        refine FGl hok30 12 rfl rfl (Gives.loadC rfl ((Sep.rowAt H32 At2).elemC rfl i hlt (us := [I m.opn[i].1, secV m.opn[i].2.1]) (refOpen_get m.opn i hlt) 0 _ rfl)) (by kernel_rfl) ?_
        rw [han]
        refine FGmove hok30 13 (h := ?_)
        refine FGp hok30 14 rfl rfl (fun _ => (Gives.nilCheck rfl)) (by kernel_rfl) ?_
        first | refine FGp hok30 15 rfl rfl (fun _ => (Gives.field0 rfl)) (by kernel_rfl) ?_ | refine FGp hok30 15 rfl rfl (fun _ => (Gives.field rfl)) (by kernel_rfl) ?_ | refine FGp hok30 15 rfl rfl (fun _ => (Gives.fieldA rfl)) (by kernel_rfl) ?_
        refine FGload hok30 16 H32 (h := ?_)
        refine FGmove hok30 17 (h := ?_)
        refine FGp hok30 18 rfl rfl (fun _ => (Gives.idx rfl rfl hlt)) (by kernel_rfl) ?_
        first | refine FGp hok30 19 rfl rfl (fun _ => (Gives.field0 rfl)) (by kernel_rfl) ?_ | refine FGp hok30 19 rfl rfl (fun _ => (Gives.field rfl)) (by kernel_rfl) ?_ | refine FGp hok30 19 rfl rfl (fun _ => (Gives.fieldA rfl)) (by kernel_rfl) ?_
        refine FGl hok30 20 rfl rfl (Gives.loadC rfl ((Sep.rowAt H32 At2).elemC rfl i hlt (us := [I m.opn[i].1, secV m.opn[i].2.1]) (refOpen_get m.opn i hlt) 1 _ rfl)) (by kernel_rfl) ?_
        have hkl2 : kept2.length ≤ 65536 ∧ an < 65536 := by
          have h1 := hok2.klen
          have h2 := hok2.many
          have h3 := hok.at_ _ hmem
          dsimp only at h1 h2
          omega
        refine FGcallN hok30 21 [(0, true)] H32 (set_ok (b := m.opn[i].2.1) m.opn[i].2 rfl (Sep.rowAt H32 At1) hkl2.1 hkl2.2) (h := fun z w49 hz H49 _ => ⟨Stab_pure (Stab_nil), ?_⟩)
        obtain ⟨vz, fills⟩ := z
        dsimp only at hz H49 ⊢
        have H3 := H49.star0
        obtain ⟨Az, cz, hvz, _⟩ := Sep.rowForm H3 At0
        subst hvz
        refine FGp hok30 22 rfl rfl (fun _ => (Gives.nilCheck rfl)) (by kernel_rfl) ?_
        first | refine FGp hok30 23 rfl rfl (fun _ => (Gives.field0 rfl)) (by kernel_rfl) ?_ | refine FGp hok30 23 rfl rfl (fun _ => (Gives.field rfl)) (by kernel_rfl) ?_ | refine FGp hok30 23 rfl rfl (fun _ => (Gives.fieldA rfl)) (by kernel_rfl) ?_
        refine FGstore hok30 24 [] H3 (h := fun w53 H53 => ⟨Stab_nil, ?_⟩)
        refine FG_end hok30 (by kernel_rfl) ?_
        refine Qblk_normal (Qseq_normal ?_)
        refine FW_region ?_
        refine FL_move (h := ?_)
        first | refine FL_val (Gives.addI rfl rfl rfl (by omega)) rfl ?_ | refine FL_val (Gives.add rfl rfl) rfl ?_
        refine FL_assign (h := ?_)
        refine FL_nil ?_
        first
          | (refine Qround_normal (k + 1, .slice Az (setK kept2 fills an m.opn[i].2).length cz, setK kept2 fills an m.opn[i].2, fills.reverse ++ pool2) ⟨rfl, rfl, rfl, rfl, trivial⟩ ⟨by dsimp only; omega, ok_set hok2 hmem han hz.1 hz.2, ?_, ?_⟩ (by dsimp only; omega)
             · dsimp only
               rw [kf_set hz.2 (by omega), ← han, hkf2, contains_take hkt, show (keep[k] == (i : Int)) = true from by simpa using hki, Bool.or_true, if_pos rfl]
               split
               · exact setT_same _ _ _
               · rfl
             · have H4 := Sep.poolJoin H53.front6.front2
               have e : poolOf fills.reverse ++ poolOf pool2 = poolOf (fills.reverse ++ pool2) := (List.map_append).symm
               rw [e] at H4
               exact H4.front3.drop0.front4.front4.front3.front4)
          | exact Qround_normal (k + 1, .slice Ak2 kept2.length ck2, kept2, pool2) ⟨rfl, rfl, rfl, rfl, trivial⟩ ⟨by dsimp only; omega, hok2, by
              dsimp only
              rw [contains_take hkt, show (keep[k] == (i : Int)) = false from by simpa using hki, Bool.or_false]
              exact hkf2, H53⟩ (by dsimp only; omega)
      · skip
        have hki := hc28
        refine FW_skip (Qblk_normal (Qseq_normal ?_))
        refine FW_region ?_
        refine FL_move (h := ?_)
        first | refine FL_val (Gives.addI rfl rfl rfl (by omega)) rfl ?_ | refine FL_val (Gives.add rfl rfl) rfl ?_
        refine FL_assign (h := ?_)
        refine FL_nil ?_
        first
          | (refine Qround_normal (k + 1, .slice Az (setK kept2 fills an m.opn[i].2).length cz, setK kept2 fills an m.opn[i].2, fills.reverse ++ pool2) ⟨rfl, rfl, rfl, rfl, trivial⟩ ⟨by dsimp only; omega, ok_set hok2 hmem han hz.1 hz.2, ?_, ?_⟩ (by dsimp only; omega)
             · dsimp only
               rw [kf_set hz.2 (by omega), ← han, hkf2, contains_take hkt, show (keep[k] == (i : Int)) = true from by simpa using hki, Bool.or_true, if_pos rfl]
               split
               · exact setT_same _ _ _
               · rfl
             · have H4 := Sep.poolJoin H15.front6.front2
               have e : poolOf fills.reverse ++ poolOf pool2 = poolOf (fills.reverse ++ pool2) := (List.map_append).symm
               rw [e] at H4
               exact H4.front3.drop0.front4.front4.front3.front4)
          | exact Qround_normal (k + 1, .slice Ak2 kept2.length ck2, kept2, pool2) ⟨rfl, rfl, rfl, rfl, trivial⟩ ⟨by dsimp only; omega, hok2, by
              dsimp only
              rw [contains_take hkt, show (keep[k] == (i : Int)) = false from by simpa using hki, Bool.or_false]
              exact hkf2, H15⟩ (by dsimp only; omega)
    · skip
      have hke : k = keep.length := by omega
      subst hke
      rw [List.take_length, ← opsR_snoc hlt] at hkf2
      refine FW_exit (Qseq_exit (Qround_exit (Qblk_exit (Qblk_normal (Qseq_normal ?_)))))
      refine FW_region ?_
      refine FL_move (h := ?_)
      first | refine FL_val (Gives.addI rfl rfl rfl (by omega)) rfl ?_ | refine FL_val (Gives.add rfl rfl) rfl ?_
      refine FL_assign (h := ?_)
      refine FL_nil ?_
      exact Qround_normal (i + 1, .slice Ak2 kept2.length ck2, kept2, pool2) ⟨rfl, rfl, rfl, trivial⟩ ⟨by dsimp only; omega, hok2, hkf2, H15⟩ (by dsimp only; omega)
  · skip
    have hie : i = m.opn.length := by omega
    subst hie
    rw [List.take_length] at hkf1
    refine FW_exit (Qseq_exit (Qround_exit (Qblk_exit (Qseq_normal ?_))))
    refine FW_seq ?_
    refine FW_region ?_
    refine FL_move (h := ?_)
    refine FL_val (Gives.nilCheck rfl) rfl ?_
    first | refine FL_val (Gives.field0 rfl) rfl ?_ | refine FL_val (Gives.field rfl) rfl ?_ | refine FL_val (Gives.fieldA rfl) rfl ?_
    refine FL_store H3 (h := ?_)
    intro w73 H73
    refine FL_nil (Qseq_normal ?_)
    refine FW_seq ?_
    refine FW_region ?_
    refine FL_move (h := ?_)
    refine FL_val (Gives.nilCheck rfl) rfl ?_
    first | refine FL_val (Gives.field0 rfl) rfl ?_ | refine FL_val (Gives.field rfl) rfl ?_ | refine FL_val (Gives.fieldA rfl) rfl ?_
    refine FL_store H73 (h := ?_)
    intro w78 H78
    refine FL_nil (Qseq_normal ?_)
    refine FW_seq ?_
    refine FW_region ?_
    refine FL_move (h := ?_)
    refine FL_val (Gives.nilCheck rfl) rfl ?_
    first | refine FL_val (Gives.field0 rfl) rfl ?_ | refine FL_val (Gives.field rfl) rfl ?_ | refine FL_val (Gives.fieldA rfl) rfl ?_
    refine FL_store H78 (h := ?_)
    intro w83 H83
    refine FL_nil (Qseq_normal ?_)
    refine FW_region ?_
    refine FL_move (h := ?_)
    refine FL_val (Gives.nilCheck rfl) rfl ?_
    first | refine FL_val (Gives.field0 rfl) rfl ?_ | refine FL_val (Gives.field rfl) rfl ?_ | refine FL_val (Gives.fieldA rfl) rfl ?_
    refine FL_store H83 (h := ?_)
    intro w88 H88
    refine FL_nil (Qfn_normal (hR := ?_))
    have H5 := ((H88.nilRow 3 1).nilRow 108 2).front4.drop0.front4.drop0.front3.front3
    have e : RM.abs { m with kept := kept1, opn := [], dead := true, left := 0, keep := [] } = m.abs.fall keep := by
      unfold RM.abs AM.fall
      dsimp only
      rw [hkf1]
      rfl
    have H6 := Sep.shutA (Sep.shutRef (m := { m with kept := kept1, opn := [], dead := true, left := 0, keep := [] }) ⟨hok1.kept, fun _ h => (by cases h), hok1.len, fun _ h => (by cases h), hok1.many, hok1.klen⟩ H5)
    rw [e] at H6
    exact ⟨rfl, H6.turn⟩
end
end Go.Proofs.Yteflbohpabdjkaa
/-
  The reference's disk: New, Boot, Crash, Fail, walked.
-/
namespace Go.Proofs.Yteflbohpabdjkaa
open Go Go.Mw
set_option maxRecDepth 8000

def AM.new (n : Int) : AM := ⟨n, fun _ => zeroSec, [], false, 0, 0, []⟩
section
variable {q : Nat} {a : AM} {F : Nat → Prop} {w w₀ : World} {S : Nat → Prop} {rs : List HP}
theorem newR_ok (n : Int) (hn : 1 ≤ n ∧ n ≤ 65536) : Rets Try.prog 33 [I n] w fun v w' => ∃ q, v = .tuple #[.pointer (some ⟨q, 0, none⟩), I 0] ∧ True ∧ Turn noB (refA q (AM.new n)) w w' := by
  have H := Sep.start0 w
  refine rets1 Try.func33 rfl rfl rfl rfl ?_
  refine FW_seq ?_
  refine FW_region ?_
  refine FL_assign (h := ?_)
  refine FL_assign (h := ?_)
  refine FL_nil (Qseq_normal ?_)
  refine FW_seq ?_
  refine FW_seq ?_
  refine FW_region ?_
  refine FL_move (h := ?_)
  refine FL_val (Gives.lss rfl rfl) rfl ?_
  refine FL_move (h := ?_)
  first | refine FL_splitP (t := 6) rfl (fun hs6 => ?_) (fun hs6 => ?_) | refine FL_split (t := 6) rfl (fun hs6 => ?_) (fun hs6 => ?_)
  · skip
    omega --done
  · skip
    refine FL_on rfl rfl ?_
    refine FL_move (h := ?_)
    refine FL_on rfl rfl ?_
    refine FL_val (Gives.gtr rfl rfl) rfl ?_
    refine FL_pickF (h := ?_)
    refine FL_nil (Qseq_normal ?_)
    first | refine FW_condP rfl (fun hc11 => ?_) (fun hc11 => ?_) | refine FW_cond rfl (fun hc11 => ?_) (fun hc11 => ?_)
    · skip
      omega --done
    · skip
      refine FW_skip (Qseq_normal ?_)
      refine FW_seq ?_
      refine FW_region ?_
      refine FL_move (h := ?_)
      refine FL_val (Gives.build (Fills.one rfl rfl rfl (by simp) rfl Fills.nil)) rfl ?_
      refine FL_box H (h := ?_)
      intro b15 w16 H16 k15
      refine FL_assign (h := ?_)
      refine FL_assign (h := ?_)
      refine FL_nil (Qseq_normal ?_)
      refine FW_ret (Qfn_ret (hR := ?_))
      have h1 := ((((H16.poolNil 5).nilRow 3 1).nilRow 108 2).nilRow 27 1).front4
      have e : RM.abs { many := n, kept := [], opn := [], dead := false, ops := 0, left := 0, keep := [] } = AM.new n := by
        unfold RM.abs AM.new
        congr 1
        funext k
        unfold kf
        split <;> rfl
      have h2 := Sep.shutA (Sep.shutRef (m := { many := n, kept := [], opn := [], dead := false, ops := 0, left := 0, keep := [] }) (pool := []) ⟨fun _ h => (by cases h), fun _ h => (by cases h), fun _ h => (by cases h), fun _ h => (by cases h), hn, by simp only [List.length_nil]; omega⟩ h1)
      rw [e] at h2
      exact ⟨_, rfl, trivial, h2.turn⟩
theorem bootR_ok (h : (refA q a).ok F w) : Rets Try.prog 42 [.pointer (some ⟨q, 0, none⟩)] w fun v w' => v = .tuple #[] ∧ Turn F (refA q a.boot) w w' := by
  obtain ⟨m, rfl, H⟩ := Sep.openA (Sep.start1 h)
  obtain ⟨vk, vo, ve, pool, hok, H⟩ := Sep.openRef H
  refine rets1 Try.func42 rfl rfl rfl rfl ?_
  refine FW_region ?_
  refine FL_move (h := ?_)
  refine FL_val (Gives.nilCheck rfl) rfl ?_
  first | refine FL_val (Gives.field0 rfl) rfl ?_ | refine FL_val (Gives.field rfl) rfl ?_ | refine FL_val (Gives.fieldA rfl) rfl ?_
  refine FL_store H (h := ?_)
  intro w5 H5
  refine FL_nil (Qfn_normal (hR := ?_))
  exact ⟨rfl, (Sep.shutA (m := { m with dead := false }) (Sep.shutRef ⟨hok.kept, hok.opn, hok.len, hok.at_, hok.many, hok.klen⟩ H5)).turn⟩
theorem crashR_ok {A : Option Addr} {c : Nat} {keep : List Int} (hol : (a.opn.length : Int) ≤ 1000000) (hkl : (keep.length : Int) ≤ 1000000) (hr : RowAt w A keep.length 1 (keep.map I)) (hA : Off A keep.length F) (h : (refA q a).ok F w) :
    Rets Try.prog 41 [.pointer (some ⟨q, 0, none⟩), .slice A keep.length c] w fun v w' => v = .tuple #[] ∧ Turn F (refA q (a.crash keep)) w w' := by
  obtain ⟨m, rfl, H⟩ := Sep.openA (Sep.start1 h)
  obtain ⟨vk, vo, ve, pool, hok, H⟩ := Sep.openRef H
  have hol2 : (m.opn.length : Int) ≤ 1000000 := by
    have e : m.abs.opn.length = m.opn.length := by simp [RM.abs]
    rw [e] at hol
    exact hol
  refine rets2 Try.func41 rfl rfl rfl rfl ?_
  refine FW_seq ?_
  refine FW_region ?_
  refine FL_move (h := ?_)
  refine FL_val (Gives.nilCheck rfl) rfl ?_
  first | refine FL_val (Gives.field0 rfl) rfl ?_ | refine FL_val (Gives.field rfl) rfl ?_ | refine FL_val (Gives.fieldA rfl) rfl ?_
  refine FL_load H (h := ?_)
  first | refine FL_val (Gives.notP rfl) rfl ?_ | refine FL_val (Gives.not rfl) rfl ?_
  refine FL_nil (Qseq_normal ?_)
  first | refine FW_condP rfl (fun hc6 => ?_) (fun hc6 => ?_) | refine FW_cond rfl (fun hc6 => ?_) (fun hc6 => ?_)
  · skip
    have hC := hc6
    refine FW_region ?_
    refine FL_move (h := ?_)
    refine FL_move (h := ?_)
    have HB : Sep w F [starL (refParts q m (vk, vo, ve, pool))] w := Sep.bundle (l := refParts q m (vk, vo, ve, pool)) H
    refine FL_call1 HB At0 (fun F' hp hF' => fallR_ok (m := m) (y := (vk, vo, ve, pool)) (keep := keep) (A := A) (c := c) hok hkl hol2 hp fun w' l1 l2 Hw => hr.keepS (HB.kept.trans Hw.kept hF') hA) (h := fun w11 H11 => ?_)
    refine FL_nil (Qfn_normal (hR := ?_))
    unfold AM.crash
    first | exact ⟨rfl, by rw [if_neg (show ¬ m.abs.dead = true by simpa [RM.abs] using hC)]; exact H11.turn⟩ | exact ⟨rfl, by rw [if_pos (show m.abs.dead = true by simpa [RM.abs] using hC)]; exact Turn.refl h⟩
  · skip
    have hC := hc6
    refine FW_skip (Qfn_normal (hR := ?_))
    unfold AM.crash
    first | exact ⟨rfl, by rw [if_neg (show ¬ m.abs.dead = true by simpa [RM.abs] using hC)]; exact H.turn⟩ | exact ⟨rfl, by rw [if_pos (show m.abs.dead = true by simpa [RM.abs] using hC)]; exact Turn.refl h⟩
theorem failR_ok {A : Option Addr} {c : Nat} {ops : Int} {keep : List Int} (hkl : keep.length ≤ 1000000) (hr : RowAt w A keep.length 1 (keep.map I)) (hA : Off A keep.length F) (h : (refA q a).ok F w) :
    Rets Try.prog 40 [.pointer (some ⟨q, 0, none⟩), I ops, .slice A keep.length c] w fun v w' => v = .tuple #[] ∧ Turn F (refA q (a.fail ops keep)) w w' := by
  obtain ⟨m, rfl, H⟩ := Sep.openA (Sep.start1 h)
  obtain ⟨vk, vo, ve, pool, hok, H⟩ := Sep.openRef H
  refine rets3 Try.func40 rfl rfl rfl rfl ?_
  refine FW_seq ?_
  refine FW_seq ?_
  refine FW_region ?_
  refine FL_move (h := ?_)
  refine FL_val (Gives.nilCheck rfl) rfl ?_
  first | refine FL_val (Gives.field0 rfl) rfl ?_ | refine FL_val (Gives.field rfl) rfl ?_ | refine FL_val (Gives.fieldA rfl) rfl ?_
  refine FL_load H (h := ?_)
  refine FL_nil (Qseq_normal ?_)
  first | refine FW_condP rfl (fun hc5 => ?_) (fun hc5 => ?_) | refine FW_cond rfl (fun hc5 => ?_) (fun hc5 => ?_)
  · skip
    have hC := hc5
    refine FW_ret (Qseq_ret (Qfn_ret (hR := ?_)))
    exact ⟨rfl, by unfold AM.fail; rw [if_pos (show m.abs.dead = true from hC)]; exact Turn.refl h⟩
  · skip
    have hC := hc5
    refine FW_skip (Qseq_normal ?_)
    refine FW_seq ?_
    refine FW_region ?_
    refine FL_move (h := ?_)
    refine FL_move (h := ?_)
    refine FL_val (Gives.max rfl rfl) rfl ?_
    refine FL_val (Gives.nilCheck rfl) rfl ?_
    first | refine FL_val (Gives.field0 rfl) rfl ?_ | refine FL_val (Gives.field rfl) rfl ?_ | refine FL_val (Gives.fieldA rfl) rfl ?_
    refine FL_store H (h := ?_)
    intro w15 H15
    refine FL_nil (Qseq_normal ?_)
    refine FW_seq ?_
    refine FW_region ?_
    refine FL_move (h := ?_)
    refine FL_val (Gives.nilCheck rfl) rfl ?_
    first | refine FL_val (Gives.field0 rfl) rfl ?_ | refine FL_val (Gives.field rfl) rfl ?_ | refine FL_val (Gives.fieldA rfl) rfl ?_
    refine FL_store H15 (h := ?_)
    intro w20 H20
    refine FL_nil (Qseq_normal ?_)
    refine FW_region ?_
    refine FL_move (h := ?_)
    refine FL_move (h := ?_)
    refine FL_val (Gives.nilCheck rfl) rfl ?_
    first | refine FL_val (Gives.field0 rfl) rfl ?_ | refine FL_val (Gives.field rfl) rfl ?_ | refine FL_val (Gives.fieldA rfl) rfl ?_
    refine FL_load H20 (h := ?_)
    refine FL_move (h := ?_)
    have H2 := H20.nilRow 3 1
    refine FL_append H2 (hx := by exact rfl) (hy := by exact rfl) (hat := At0) (hr.keepS H20.kept hA) (by intro u hu; obtain ⟨k, _, rfl⟩ := List.mem_map.1 hu; rfl) (h63 := by unfold maxLen; omega) (hbytes := by omega) (h := fun vv w28 H28 => ?_)
    rw [Nat.zero_add, List.nil_append] at H28
    obtain ⟨Av, cv, hv27, _⟩ := Sep.rowForm H28 At0
    subst hv27
    refine FL_val (Gives.nilCheck rfl) rfl ?_
    first | refine FL_val (Gives.field0 rfl) rfl ?_ | refine FL_val (Gives.field rfl) rfl ?_ | refine FL_val (Gives.fieldA rfl) rfl ?_
    refine FL_store H28 (h := ?_)
    intro w32 H32
    refine FL_nil (Qfn_normal (hR := ?_))
    have H5 := H32.front4.drop0
    have e : RM.abs { m with left := max ops 0, keep := keep } = m.abs.fail ops keep := by
      unfold AM.fail
      rw [if_neg (show ¬ m.abs.dead = true by simpa [RM.abs] using hC)]
      rfl
    have H6 := Sep.shutA (Sep.shutRef (m := { m with left := max ops 0, keep := keep }) ⟨hok.kept, hok.opn, hok.len, hok.at_, hok.many, hok.klen⟩ H5.front3.front3.front3)
    rw [e] at H6
    exact ⟨rfl, H6.turn⟩
end
end Go.Proofs.Yteflbohpabdjkaa
/-
  The reference's disk: Write and Flush, walked.
-/
namespace Go.Proofs.Yteflbohpabdjkaa
open Go Go.Mw
set_option maxRecDepth 8000

structure AM.small (k : Nat) (a : AM) : Prop where
  opn : (a.opn.length : Int) ≤ k
  keep : (a.keep.length : Int) ≤ k
  ops0 : 0 ≤ a.ops
  ops : a.ops ≤ k
  left0 : -(k : Int) ≤ a.left
  left : a.left ≤ 9223372036854775807
section
variable {q : Nat} {a : AM} {F : Nat → Prop} {w w₀ : World} {S : Nat → Prop} {rs : List HP}
theorem opn_len (m : RM) : m.abs.opn.length = m.opn.length := by simp [RM.abs]
/-- A fall by the numbers that the disk was asked to keep. -/
theorem fallOwn {m : RM} {vk vo ve : Value} {pool : List (Nat × List UInt8)} {A : Option Addr} {c : Nat} (hve : ve = .slice A m.keep.length c) (hok : m.ok pool) (hol : (m.opn.length : Int) ≤ 1000000) (hkl : (m.keep.length : Int) ≤ 1000000) (h : (starL (refParts q m (vk, vo, ve, pool))).ok F w) :
    Rets Try.prog 71 [.pointer (some ⟨q, 0, none⟩), .slice A m.keep.length c] w fun v w' => v = .tuple #[] ∧ Turn F (refA q (m.abs.fall m.keep)) w w' := by
  subst hve
  exact fallR_ok (y := (vk, vo, .slice A m.keep.length c, pool)) hok hkl hol h fun w' l1 l2 Hw => Sep.rowAt Hw ⟨l1, l2, rfl, fun _ => rfl⟩
set_option maxHeartbeats 4000000 in
theorem writeR_ok {at_ : Int} {b : List UInt8} {A : Option Addr} {c : Nat} (hs : a.small 100000) (hr : RowAt w A b.length 1 (b.map B)) (hA : Off A b.length F) (h : (refA q a).ok F w) :
    Rets Try.prog 36 [.pointer (some ⟨q, 0, none⟩), I at_, .slice A b.length c] w fun v w' => v = I (a.write at_ b).1 ∧ Turn F (refA q (a.write at_ b).2) w w' := by
  obtain ⟨m, rfl, H⟩ := Sep.openA (Sep.start1 h)
  obtain ⟨vk, vo, ve, pool, hok, H⟩ := Sep.openRef H
  have hol := hs.opn
  rw [opn_len] at hol
  have hs2 := hs
  obtain ⟨Ao, co, hvo, _⟩ := Sep.rowForm H At2
  subst hvo
  refine rets3 Try.func36 rfl rfl rfl rfl ?_
  refine FW_seq ?_
  refine FW_region ?_
  refine FL_assign (h := ?_)
  refine FL_nil (Qseq_normal ?_)
  refine FW_seq ?_
  refine FW_block ?_
  refine FW_seq ?_
  refine FW_region ?_
  refine FL_move (h := ?_)
  refine FL_val (Gives.nilCheck rfl) rfl ?_
  first | refine FL_val (Gives.field0 rfl) rfl ?_ | refine FL_val (Gives.field rfl) rfl ?_ | refine FL_val (Gives.fieldA rfl) rfl ?_
  refine FL_load H (h := ?_)
  refine FL_assign (h := ?_)
  refine FL_nil (Qseq_normal ?_)
  first | refine FW_condP rfl (fun hc7 => ?_) (fun hc7 => ?_) | refine FW_cond rfl (fun hc7 => ?_) (fun hc7 => ?_)
  · skip
    have hd : m.dead = true := hc7
    refine FW_seq ?_
    refine FW_region ?_
    refine FL_assign (h := ?_)
    refine FL_nil (Qseq_normal ?_)
    refine FW_ret (Qblk_ret (Qseq_ret (Qfn_ret (hR := ?_))))
    have hw : m.abs.write at_ b = (290, m.abs) := by
      have hl : m.abs.look at_ = 290 := by unfold AM.look; rw [if_pos (show m.abs.dead = true from hd)]
      unfold AM.write
      rw [hl, if_pos (by decide)]
    rw [hw]
    exact ⟨rfl, Turn.refl h⟩
  · skip
    have hd : m.dead = false := hc7
    refine FW_seq ?_
    refine FW_region ?_
    refine FL_move (h := ?_)
    refine FL_val (Gives.lss rfl rfl) rfl ?_
    refine FL_move (h := ?_)
    first | refine FL_splitP (t := 15) rfl (fun hs15 => ?_) (fun hs15 => ?_) | refine FL_split (t := 15) rfl (fun hs15 => ?_) (fun hs15 => ?_)
    · skip
      have hr3 : at_ < 0 ∨ m.many ≤ at_ := .inl hs15
      refine FL_off rfl rfl rfl ?_
      refine FL_off rfl rfl rfl ?_
      refine FL_off rfl rfl rfl ?_
      refine FL_off rfl rfl rfl ?_
      refine FL_off rfl rfl rfl ?_
      refine FL_off rfl rfl rfl ?_
      refine FL_pickT (h := ?_)
      refine FL_assign (h := ?_)
      refine FL_nil (Qseq_normal ?_)
      refine FW_cond_true rfl ?_
      refine FW_seq ?_
      refine FW_region ?_
      refine FL_assign (h := ?_)
      refine FL_nil (Qseq_normal ?_)
      refine FW_ret (Qblk_ret (Qseq_ret (Qfn_ret (hR := ?_))))
      have hw : m.abs.write at_ b = (6, m.abs) := by
        have hl : m.abs.look at_ = 6 := by unfold AM.look; rw [if_neg (show ¬ m.abs.dead = true by rw [show m.abs.dead = false from hd]; simp), if_pos (by first | exact hr3 | exact hr4)]
        unfold AM.write
        rw [hl, if_pos (by decide)]
      rw [hw]
      exact ⟨rfl, Turn.refl h⟩
    · skip
      have hn3 := hs15
      refine FL_on rfl rfl ?_
      refine FL_move (h := ?_)
      refine FL_on rfl rfl ?_
      refine FL_move (h := ?_)
      refine FL_on rfl rfl ?_
      refine FL_val (Gives.nilCheck rfl) rfl ?_
      refine FL_on rfl rfl ?_
      first | refine FL_val (Gives.field0 rfl) rfl ?_ | refine FL_val (Gives.field rfl) rfl ?_ | refine FL_val (Gives.fieldA rfl) rfl ?_
      refine FL_on rfl rfl ?_
      refine FL_load H (h := ?_)
      refine FL_on rfl rfl ?_
      refine FL_val (Gives.geq rfl rfl) rfl ?_
      refine FL_pickF (h := ?_)
      refine FL_assign (h := ?_)
      refine FL_nil (Qseq_normal ?_)
      first | refine FW_condP rfl (fun hc30 => ?_) (fun hc30 => ?_) | refine FW_cond rfl (fun hc30 => ?_) (fun hc30 => ?_)
      · skip
        have hr4 : at_ < 0 ∨ m.many ≤ at_ := by first | exact hr3 | exact .inr hc30
        refine FW_seq ?_
        refine FW_region ?_
        refine FL_assign (h := ?_)
        refine FL_nil (Qseq_normal ?_)
        refine FW_ret (Qblk_ret (Qseq_ret (Qfn_ret (hR := ?_))))
        have hw : m.abs.write at_ b = (6, m.abs) := by
          have hl : m.abs.look at_ = 6 := by unfold AM.look; rw [if_neg (show ¬ m.abs.dead = true by rw [show m.abs.dead = false from hd]; simp), if_pos (by first | exact hr3 | exact hr4)]
          unfold AM.write
          rw [hl, if_pos (by decide)]
        rw [hw]
        exact ⟨rfl, Turn.refl h⟩
      · skip
        have hl : m.abs.look at_ = 0 := by unfold AM.look; rw [if_neg (show ¬ m.abs.dead = true by rw [show m.abs.dead = false from hd]; simp), if_neg (show ¬ (at_ < 0 ∨ m.abs.many ≤ at_) from (show ¬ (at_ < 0 ∨ m.many ≤ at_) by omega))]
        refine FW_seq ?_
        refine FW_region ?_
        refine FL_move (h := ?_)
        refine FL_val (Gives.lenSlice rfl) rfl ?_
        refine FL_val (Gives.gtr rfl rfl) rfl ?_
        refine FL_assign (h := ?_)
        refine FL_nil (Qseq_normal ?_)
        first | refine FW_condP rfl (fun hc39 => ?_) (fun hc39 => ?_) | refine FW_cond rfl (fun hc39 => ?_) (fun hc39 => ?_)
        · skip
          have hw : m.abs.write at_ b = (5, m.abs) := by
            unfold AM.write
            rw [hl, if_neg (by decide), if_pos (by omega)]
          refine FW_seq ?_
          refine FW_region ?_
          refine FL_assign (h := ?_)
          refine FL_nil (Qseq_normal ?_)
          refine FW_ret (Qblk_ret (Qseq_ret (Qfn_ret (hR := ?_))))
          exact ⟨by rw [hw]; rfl, by rw [hw]; exact Turn.refl h⟩
        · skip
          have hb : b.length ≤ 128 := by omega
          have hw : m.abs.write at_ b = (m.abs.put at_ b).op := by
            unfold AM.write
            rw [hl, if_neg (by decide), if_neg (by omega)]
          rw [hw]
          refine FW_skip (Qblk_normal (Qseq_normal ?_))
          refine FW_seq ?_
          refine FW_drawS rfl H (h := fun hok44 w46 H46 => ?_)
          refine FGmove hok44 0 (h := ?_)
          refine FGmove hok44 1 (h := ?_)
          refine FGp hok44 2 rfl rfl (fun _ => (Gives.nilCheck rfl)) (by kernel_rfl) ?_
          first | refine FGp hok44 3 rfl rfl (fun _ => (Gives.field0 rfl)) (by kernel_rfl) ?_ | refine FGp hok44 3 rfl rfl (fun _ => (Gives.field rfl)) (by kernel_rfl) ?_ | refine FGp hok44 3 rfl rfl (fun _ => (Gives.fieldA rfl)) (by kernel_rfl) ?_
          refine FGload hok44 4 H46 (h := ?_)
          refine FGmove hok44 5 (h := ?_)
          refine FGmove hok44 6 (h := ?_)
          refine FGcallN hok44 7 [(5, true), (4, false), (3, true), (2, true), (1, true), (0, true)] H46 (full_ok (hr.keepS H46.kept hA) hb) (h := fun bf w51 _ H51 _ => ⟨Stab_pure (Stab_load H51 (h := Stab_pure (Stab_pure (Stab_pure (Stab_pure (Stab_nil)))))), ?_⟩)
          refine FGp hok44 8 rfl rfl (fun _ => (Gives.build (out := [I at_, secV bf]) (Fills.one rfl rfl rfl (by simp) rfl (Fills.one rfl rfl rfl (by simp) rfl Fills.nil)))) (by kernel_rfl) ?_
          refine FGbuildSlice hok44 9 [(4, false), (3, true), (2, true), (1, true), (0, true)] H51 (Elems.many (us := [I at_, secV bf]) rfl rfl Elems.nil) (h := fun b53 w54 H54 => ⟨Stab_load H54 (h := Stab_pure (Stab_pure (Stab_pure (Stab_pure (Stab_nil))))), ?_⟩)
          refine FGappend hok44 10 [(0, true)] (t := 104) (e := 108) (v := .slice Ao m.opn.length co) (k := m.opn.length) (xs := refOpen m.opn) H54 (H54.blkRow At0 (m := 1) (s := 2) rfl) (by intro u hu; simp at hu; rcases hu with rfl | rfl <;> rfl) (by unfold maxLen; omega) (by omega) (hat := At4) (h := fun vv w56 H56 => ⟨Stab_pure (Stab_nil), ?_⟩)
          obtain ⟨Av, cv, hv55, _⟩ := Sep.rowForm H56 At4
          subst hv55
          refine FGp hok44 11 rfl rfl (fun _ => (Gives.nilCheck rfl)) (by kernel_rfl) ?_
          first | refine FGp hok44 12 rfl rfl (fun _ => (Gives.field0 rfl)) (by kernel_rfl) ?_ | refine FGp hok44 12 rfl rfl (fun _ => (Gives.field rfl)) (by kernel_rfl) ?_ | refine FGp hok44 12 rfl rfl (fun _ => (Gives.fieldA rfl)) (by kernel_rfl) ?_
          refine FGstore hok44 13 [] H56 (h := fun w60 H60 => ⟨Stab_nil, ?_⟩)
          refine FG_end hok44 (by kernel_rfl) ?_
          refine Qseq_normal ?_
          refine FW_seq ?_
          refine FW_seq ?_
          refine FW_region ?_
          refine FL_move (h := ?_)
          have hro : refOpen m.opn ++ ([I at_, secV bf] ++ []) = refOpen (m.opn ++ [(at_, bf, pad b)]) := by simp [refOpen]
          have hln : m.opn.length + 1 = (m.opn ++ [(at_, bf, pad b)]).length := by simp
          rw [hro, hln] at H60
          have H2 := (Sep.poolCons H60.drop0.front5.front1).front4.front4.front4.front4
          have hat : 0 ≤ at_ ∧ at_ < m.many := by omega
          have hok1 : RM.ok { m with opn := m.opn ++ [(at_, bf, pad b)] } ((bf, pad b) :: pool) :=
            ⟨fun x hx => List.mem_cons_of_mem _ (hok.kept x hx), fun x hx => by
              rcases List.mem_append.1 hx with h | h
              · exact List.mem_cons_of_mem _ (hok.opn x h)
              · rw [List.mem_singleton.1 h]; exact List.mem_cons_self, fun x hx => by
              rcases List.mem_cons.1 hx with rfl | h
              · exact pad_length hb
              · exact hok.len x h, fun x hx => by
              rcases List.mem_append.1 hx with h | h
              · exact hok.at_ x h
              · rw [List.mem_singleton.1 h]; exact hat, hok.many, hok.klen⟩
          have H3 := Sep.shutA (Sep.shutRef (m := { m with opn := m.opn ++ [(at_, bf, pad b)] }) hok1 H2)
          have e : RM.abs { m with opn := m.opn ++ [(at_, bf, pad b)] } = m.abs.put at_ b := by
            unfold RM.abs AM.put
            dsimp only
            rw [List.map_append]
            rfl
          rw [e] at H3
          refine FL_call1 H3 At0 (fun F' hp _ => counts_ok (by have h1 := hs.ops0; have h2 := hs.ops; have h3 := hs.left0; have h4 := hs.left; exact ⟨by show fits (m.abs.ops + 1); unfold fits; omega, by show fits (m.abs.left - 1); unfold fits; omega⟩) hp) (h := fun w63 H63 => ?_)
          refine FL_nil (Qseq_normal ?_)
          first | refine FW_condP rfl (fun hc64 => ?_) (fun hc64 => ?_) | refine FW_cond rfl (fun hc64 => ?_) (fun hc64 => ?_)
          · skip
            have hf : (m.abs.put at_ b).fails = true := decide_eq_true hc64
            obtain ⟨m2, hm2, H0⟩ := Sep.openA H63
            obtain ⟨vk2, vo2, ve2, pool2, hok2, H66⟩ := Sep.openRef H0
            obtain ⟨Ae, ce, hve2, _⟩ := Sep.rowForm H66 At3
            have hol2 : (m2.opn.length : Int) ≤ 1000000 := by
              rw [← opn_len, hm2]
              show (((m.opn.map fun x => (x.1, x.2.2)) ++ [(at_, pad b)]).length : Int) ≤ _
              simp; omega
            have hkl2 : (m2.keep.length : Int) ≤ 1000000 := by
              have e1 : m2.keep = m.keep := show m2.abs.keep = m.keep by rw [hm2]; rfl
              rw [e1]
              have := hs.keep
              have e2 : m.abs.keep = m.keep := rfl
              rw [e2] at this
              omega
            refine FW_seq ?_
            refine FW_region ?_
            refine FL_move (h := ?_)
            refine FL_move (h := ?_)
            refine FL_val (Gives.nilCheck rfl) rfl ?_
            first | refine FL_val (Gives.field0 rfl) rfl ?_ | refine FL_val (Gives.field rfl) rfl ?_ | refine FL_val (Gives.fieldA rfl) rfl ?_
            refine FL_load H66 (h := ?_)
            have HB := Sep.bundle (l := refParts q m2 (vk2, vo2, ve2, pool2)) (rs := []) H66
            rw [hve2]
            refine FL_call1 HB At0 (fun F' hp _ => fallOwn hve2 hok2 hol2 hkl2 hp) (h := fun w73 H73 => ?_)
            refine FL_nil (Qseq_normal ?_)
            refine FW_seq ?_
            refine FW_region ?_
            refine FL_assign (h := ?_)
            refine FL_nil (Qseq_normal ?_)
            refine FW_ret (Qseq_ret (Qfn_ret (hR := ?_)))
            have e : (m.abs.put at_ b).op = (290, m2.abs.fall m2.keep) := by
              unfold AM.op
              rw [if_pos hf, hm2]
              have e1 : m2.keep = (m.abs.put at_ b).keep := show m2.abs.keep = _ by rw [hm2]; rfl
              rw [e1]
            rw [e]
            exact ⟨rfl, H73.turn⟩
          · skip
            have hf : (m.abs.put at_ b).fails = false := decide_eq_false hc64
            refine FW_skip (Qseq_normal ?_)
            refine FW_seq ?_
            refine FW_region ?_
            refine FL_assign (h := ?_)
            refine FL_nil (Qseq_normal ?_)
            refine FW_ret (Qfn_ret (hR := ?_))
            have e : (m.abs.put at_ b).op = (0, (m.abs.put at_ b).counts) := by
              unfold AM.op
              rw [if_neg (by rw [hf]; simp)]
            rw [e]
            exact ⟨rfl, H63.turn⟩
theorem allT_snoc : ∀ (l : List (Int × List UInt8)) (x : Int × List UInt8) (f : Int → List UInt8), allT (l ++ [x]) f = setT (allT l f) x.1 x.2
  | [], _, _ => rfl
  | y :: l, x, f => allT_snoc l x (setT f y.1 y.2)
theorem allT_take {l : List (Int × Nat × List UInt8)} {f : Int → List UInt8} {i : Nat} (h : i < l.length) : allT (opsR (l.take (i + 1))) f = setT (allT (opsR (l.take i)) f) l[i].1 l[i].2.2 := by
  have e : opsR (l.take (i + 1)) = opsR (l.take i) ++ [(l[i].1, l[i].2.2)] := by
    unfold opsR
    rw [List.take_succ_eq_append_getElem h, List.map_append]
    rfl
  rw [e, allT_snoc]
set_option maxHeartbeats 4000000 in
theorem flushR_ok (hs : a.small 100000) (h : (refA q a).ok F w) :
    Rets Try.prog 39 [.pointer (some ⟨q, 0, none⟩)] w fun v w' => v = I a.flush.1 ∧ Turn F (refA q a.flush.2) w w' := by
  obtain ⟨m, rfl, H⟩ := Sep.openA (Sep.start1 h)
  obtain ⟨vk, vo, ve, pool, hok, H⟩ := Sep.openRef H
  have hol := hs.opn
  rw [opn_len] at hol
  refine rets1 Try.func39 rfl rfl rfl rfl ?_
  refine FW_seq ?_
  refine FW_region ?_
  refine FL_assign (h := ?_)
  refine FL_nil (Qseq_normal ?_)
  refine FW_seq ?_
  refine FW_seq ?_
  refine FW_region ?_
  refine FL_move (h := ?_)
  refine FL_val (Gives.nilCheck rfl) rfl ?_
  first | refine FL_val (Gives.field0 rfl) rfl ?_ | refine FL_val (Gives.field rfl) rfl ?_ | refine FL_val (Gives.fieldA rfl) rfl ?_
  refine FL_load H (h := ?_)
  refine FL_nil (Qseq_normal ?_)
  first | refine FW_condP rfl (fun hc6 => ?_) (fun hc6 => ?_) | refine FW_cond rfl (fun hc6 => ?_) (fun hc6 => ?_)
  · skip
    have hd : m.dead = true := hc6
    refine FW_seq ?_
    refine FW_region ?_
    refine FL_assign (h := ?_)
    refine FL_nil (Qseq_normal ?_)
    refine FW_ret (Qseq_ret (Qfn_ret (hR := ?_)))
    have hw : m.abs.flush = (290, m.abs) := by
      unfold AM.flush
      rw [if_pos (show m.abs.dead = true from hd)]
    rw [hw]
    exact ⟨rfl, Turn.refl h⟩
  · skip
    have hd : m.dead = false := hc6
    refine FW_skip (Qseq_normal ?_)
    refine FW_seq ?_
    refine FW_seq ?_
    refine FW_region ?_
    refine FL_move (h := ?_)
    refine FL_call1 (Sep.shutA (Sep.shutRef hok H)) At0 (fun F' hp _ => counts_ok (by have h1 := hs.ops0; have h2 := hs.ops; have h3 := hs.left0; have h4 := hs.left; exact ⟨by unfold fits; omega, by unfold fits; omega⟩) hp) (h := fun w13 H13 => ?_)
    refine FL_nil (Qseq_normal ?_)
    first | refine FW_condP rfl (fun hc14 => ?_) (fun hc14 => ?_) | refine FW_cond rfl (fun hc14 => ?_) (fun hc14 => ?_)
    · skip
      have hf : m.abs.fails = true := decide_eq_true hc14
      obtain ⟨m2, hm2, H0⟩ := Sep.openA H13
      obtain ⟨vk2, vo2, ve2, pool2, hok2, H16⟩ := Sep.openRef H0
      obtain ⟨Ae, ce, hve2, _⟩ := Sep.rowForm H16 At3
      have hol2 : (m2.opn.length : Int) ≤ 1000000 := by
        rw [← opn_len, hm2]
        show ((m.opn.map fun x => (x.1, x.2.2)).length : Int) ≤ _
        simp; omega
      have hkl2 : (m2.keep.length : Int) ≤ 1000000 := by
        have e1 : m2.keep = m.keep := show m2.abs.keep = m.keep by rw [hm2]; rfl
        rw [e1]
        have := hs.keep
        have e2 : m.abs.keep = m.keep := rfl
        rw [e2] at this
        omega
      refine FW_seq ?_
      refine FW_region ?_
      refine FL_move (h := ?_)
      refine FL_move (h := ?_)
      refine FL_val (Gives.nilCheck rfl) rfl ?_
      first | refine FL_val (Gives.field0 rfl) rfl ?_ | refine FL_val (Gives.field rfl) rfl ?_ | refine FL_val (Gives.fieldA rfl) rfl ?_
      refine FL_load H16 (h := ?_)
      have HB := Sep.bundle (l := refParts q m2 (vk2, vo2, ve2, pool2)) (rs := []) H16
      rw [hve2]
      refine FL_call1 HB At0 (fun F' hp _ => fallOwn hve2 hok2 hol2 hkl2 hp) (h := fun w23 H23 => ?_)
      refine FL_nil (Qseq_normal ?_)
      refine FW_seq ?_
      refine FW_region ?_
      refine FL_assign (h := ?_)
      refine FL_nil (Qseq_normal ?_)
      refine FW_ret (Qseq_ret (Qfn_ret (hR := ?_)))
      have e : m.abs.flush = (290, m2.abs.fall m2.keep) := by
        unfold AM.flush AM.op
        rw [if_neg (show ¬ m.abs.dead = true by rw [show m.abs.dead = false from hd]; simp), if_pos hf, if_pos hf, hm2]
        have e1 : m2.keep = m.abs.keep := show m2.abs.keep = _ by rw [hm2]; rfl
        rw [e1]
      rw [e]
      exact ⟨rfl, H23.turn⟩
    · skip
      have hf : m.abs.fails = false := decide_eq_false hc14
      obtain ⟨m2, hm2, H0⟩ := Sep.openA H13
      obtain ⟨vk2, vo2, ve2, pool2, hok2, H27⟩ := Sep.openRef H0
      obtain ⟨Ao, co, hvo2, _⟩ := Sep.rowForm H27 At2
      subst hvo2
      have hol2 : (m2.opn.length : Int) ≤ 1000000 := by
        rw [← opn_len, hm2]
        show ((m.opn.map fun x => (x.1, x.2.2)).length : Int) ≤ _
        simp; omega
      refine FW_skip (Qseq_normal ?_)
      refine FW_seq ?_
      refine FW_seq ?_
      refine FW_region ?_
      refine FL_assign (h := ?_)
      refine FL_nil (Qseq_normal ?_)
      refine FW_block ?_
      refine FW_loop' (fun x : Nat × Value × List (Nat × List UInt8) × List (Nat × List UInt8) => [(0, .pointer (some ⟨q, 0, none⟩)), (3, I x.1)])
        (fun x w' => x.1 ≤ m2.opn.length ∧ RM.ok { m2 with kept := x.2.2.1 } x.2.2.2 ∧ kf x.2.2.1 = allT (opsR (m2.opn.take x.1)) (kf m2.kept) ∧ Sep w F (blk q (refCells m2 x.2.1 (.slice Ao m2.opn.length co) ve2) 106 :: rowH 27 1 x.2.1 x.2.2.1.length (x.2.2.1.map fun x => secV x.1) :: rowH 108 2 (.slice Ao m2.opn.length co) m2.opn.length (refOpen m2.opn) :: rowH 3 1 ve2 m2.keep.length (m2.keep.map I) :: poolH 5 (poolOf x.2.2.2) :: []) w') (fun x _ => m2.opn.length - x.1) (0, vk2, m2.kept, pool2) ⟨rfl, rfl, trivial⟩ ⟨Nat.zero_le _, hok2, rfl, H27⟩ (fun x τ w30 hI => ?_)
      obtain ⟨i, vk3, kept3, pool3⟩ := x
      obtain ⟨hi, hok3, hkf3, H30⟩ := hI
      dsimp only at hi hok3 hkf3 H30
      obtain ⟨Ak3, ck3, hvk3, _⟩ := Sep.rowForm H30 At1
      subst hvk3
      try simp only [upds, like, upd_ds, und_ds]
      refine FW_seq ?_
      refine FW_seq ?_
      refine FW_region ?_
      refine FL_move (h := ?_)
      refine FL_move (h := ?_)
      refine FL_val (Gives.nilCheck rfl) rfl ?_
      first | refine FL_val (Gives.field0 rfl) rfl ?_ | refine FL_val (Gives.field rfl) rfl ?_ | refine FL_val (Gives.fieldA rfl) rfl ?_
      refine FL_load H30 (h := ?_)
      refine FL_val (Gives.lenSlice rfl) rfl ?_
      refine FL_val (Gives.lss rfl rfl) rfl ?_
      refine FL_nil (Qseq_normal ?_)
      first | refine FW_condP rfl (fun hc38 => ?_) (fun hc38 => ?_) | refine FW_cond rfl (fun hc38 => ?_) (fun hc38 => ?_)
      · skip
        have hlt : i < m2.opn.length := by omega
        have hor := Sep.rowAt H30 At2
        obtain ⟨ad, hAd, _⟩ := hor.at_ (by omega)
        subst hAd
        have hmem := List.getElem_mem hlt
        obtain ⟨an, han⟩ : ∃ an : Nat, m2.opn[i].1 = an := ⟨m2.opn[i].1.toNat, by have := hok2.at_ _ hmem; omega⟩
        refine FW_skip (Qseq_normal ?_)
        refine FW_seq ?_
        refine FW_block ?_
        refine FW_drawS rfl H30 (h := fun hok40 w42 H42 => ?_)
        refine FGmove hok40 0 (h := ?_)
        refine FGmove hok40 1 (h := ?_)
        refine FGp hok40 2 rfl rfl (fun _ => (Gives.nilCheck rfl)) (by kernel_rfl) ?_
        first | refine FGp hok40 3 rfl rfl (fun _ => (Gives.field0 rfl)) (by kernel_rfl) ?_ | refine FGp hok40 3 rfl rfl (fun _ => (Gives.field rfl)) (by kernel_rfl) ?_ | refine FGp hok40 3 rfl rfl (fun _ => (Gives.fieldA rfl)) (by kernel_rfl) ?_
        refine FGload hok40 4 H42 (h := ?_)
        refine FGmove hok40 5 (h := ?_)
        refine FGp hok40 6 rfl rfl (fun _ => (Gives.nilCheck rfl)) (by kernel_rfl) ?_
        first | refine FGp hok40 7 rfl rfl (fun _ => (Gives.field0 rfl)) (by kernel_rfl) ?_ | refine FGp hok40 7 rfl rfl (fun _ => (Gives.field rfl)) (by kernel_rfl) ?_ | refine FGp hok40 7 rfl rfl (fun _ => (Gives.fieldA rfl)) (by kernel_rfl) ?_
        refine FGload hok40 8 H42 (h := ?_)
        refine FGmove hok40 9 (h := ?_)
        refine FGp hok40 10 rfl rfl (fun _ => (Gives.idx rfl rfl hlt)) (by kernel_rfl) ?_
        first | refine FGp hok40 11 rfl rfl (fun _ => (Gives.field0 rfl)) (by kernel_rfl) ?_ | refine FGp hok40 11 rfl rfl (fun _ => (Gives.field rfl)) (by kernel_rfl) ?_ | refine FGp hok40 11 rfl rfl (fun _ => (Gives.fieldA rfl)) (by kernel_rfl) ?_
        refine FGl hok40 12 rfl rfl (Gives.loadC rfl ((Sep.rowAt H42 At2).elemC rfl i hlt (us := [I m2.opn[i].1, secV m2.opn[i].2.1]) (refOpen_get m2.opn i hlt) 0 _ rfl)) (by kernel_rfl) ?_
        rw [han]
        refine FGmove hok40 13 (h := ?_)
        refine FGp hok40 14 rfl rfl (fun _ => (Gives.nilCheck rfl)) (by kernel_rfl) ?_
        first | refine FGp hok40 15 rfl rfl (fun _ => (Gives.field0 rfl)) (by kernel_rfl) ?_ | refine FGp hok40 15 rfl rfl (fun _ => (Gives.field rfl)) (by kernel_rfl) ?_ | refine FGp hok40 15 rfl rfl (fun _ => (Gives.fieldA rfl)) (by kernel_rfl) ?_
        refine FGload hok40 16 H42 (h := ?_)
        refine FGmove hok40 17 (h := ?_)
        refine FGp hok40 18 rfl rfl (fun _ => (Gives.idx rfl rfl hlt)) (by kernel_rfl) ?_
        first | refine FGp hok40 19 rfl rfl (fun _ => (Gives.field0 rfl)) (by kernel_rfl) ?_ | refine FGp hok40 19 rfl rfl (fun _ => (Gives.field rfl)) (by kernel_rfl) ?_ | refine FGp hok40 19 rfl rfl (fun _ => (Gives.fieldA rfl)) (by kernel_rfl) ?_
        refine FGl hok40 20 rfl rfl (Gives.loadC rfl ((Sep.rowAt H42 At2).elemC rfl i hlt (us := [I m2.opn[i].1, secV m2.opn[i].2.1]) (refOpen_get m2.opn i hlt) 1 _ rfl)) (by kernel_rfl) ?_
        have hkl3 : kept3.length ≤ 65536 ∧ an < 65536 := by
          have h1 := hok3.klen
          have h2 := hok3.many
          have h3 := hok2.at_ _ hmem
          dsimp only at h1 h2
          omega
        refine FGcallN hok40 21 [(0, true)] H42 (set_ok (b := m2.opn[i].2.1) m2.opn[i].2 rfl (Sep.rowAt H42 At1) hkl3.1 hkl3.2) (h := fun z w59 hz H59 _ => ⟨Stab_pure (Stab_nil), ?_⟩)
        obtain ⟨vz, fills⟩ := z
        dsimp only at hz H59 ⊢
        have H3 := H59.star0
        obtain ⟨Az, cz, hvz, _⟩ := Sep.rowForm H3 At0
        subst hvz
        refine FGp hok40 22 rfl rfl (fun _ => (Gives.nilCheck rfl)) (by kernel_rfl) ?_
        first | refine FGp hok40 23 rfl rfl (fun _ => (Gives.field0 rfl)) (by kernel_rfl) ?_ | refine FGp hok40 23 rfl rfl (fun _ => (Gives.field rfl)) (by kernel_rfl) ?_ | refine FGp hok40 23 rfl rfl (fun _ => (Gives.fieldA rfl)) (by kernel_rfl) ?_
        refine FGstore hok40 24 [] H3 (h := fun w63 H63 => ⟨Stab_nil, ?_⟩)
        refine FG_end hok40 (by kernel_rfl) ?_
        refine Qblk_normal (Qseq_normal ?_)
        refine FW_region ?_
        refine FL_move (h := ?_)
        first | refine FL_val (Gives.addI rfl rfl rfl (by omega)) rfl ?_ | refine FL_val (Gives.add rfl rfl) rfl ?_
        refine FL_assign (h := ?_)
        refine FL_nil ?_
        refine Qround_normal (i + 1, .slice Az (setK kept3 fills an m2.opn[i].2).length cz, setK kept3 fills an m2.opn[i].2, fills.reverse ++ pool3) ⟨rfl, rfl, trivial⟩ ⟨by dsimp only; omega, ok_set hok3 hmem han hz.1 hz.2, ?_, ?_⟩ (by dsimp only; omega)
        · dsimp only
          rw [kf_set hz.2 (by omega), ← han, hkf3, allT_take hlt]
        · have H4 := Sep.poolJoin H63.front6.front2
          have e : poolOf fills.reverse ++ poolOf pool3 = poolOf (fills.reverse ++ pool3) := (List.map_append).symm
          rw [e] at H4
          exact H4.front3.drop0.front4.front4.front3.front4
      · skip
        have hie : i = m2.opn.length := by omega
        subst hie
        rw [List.take_length] at hkf3
        refine FW_exit (Qseq_exit (Qround_exit (Qblk_exit (Qseq_normal ?_))))
        refine FW_seq ?_
        refine FW_region ?_
        refine FL_move (h := ?_)
        refine FL_val (Gives.nilCheck rfl) rfl ?_
        first | refine FL_val (Gives.field0 rfl) rfl ?_ | refine FL_val (Gives.field rfl) rfl ?_ | refine FL_val (Gives.fieldA rfl) rfl ?_
        refine FL_store H30 (h := ?_)
        intro w73 H73
        refine FL_nil (Qseq_normal ?_)
        refine FW_seq ?_
        refine FW_region ?_
        refine FL_assign (h := ?_)
        refine FL_nil (Qseq_normal ?_)
        refine FW_ret (Qfn_ret (hR := ?_))
        have H5 := (H73.nilRow 108 2).front3.drop0.front2.front2
        have e : m.abs.flush = (0, RM.abs { m2 with kept := kept3, opn := [] }) := by
          unfold AM.flush
          rw [if_neg (show ¬ m.abs.dead = true by rw [show m.abs.dead = false from hd]; simp), if_neg (by rw [hf]; simp), ← hm2]
          have e1 : m.abs.opn = m2.abs.opn := by rw [hm2]; rfl
          have e2 : m.abs.kf = m2.abs.kf := by rw [hm2]; rfl
          rw [e1, e2]
          unfold RM.abs
          dsimp only
          rw [hkf3]
          rfl
        have H6 := Sep.shutA (Sep.shutRef (m := { m2 with kept := kept3, opn := [] }) ⟨hok3.kept, fun _ h => (by cases h), hok3.len, fun _ h => (by cases h), hok3.many, hok3.klen⟩ H5)
        rw [e]
        exact ⟨rfl, H6.turn⟩
end
end Go.Proofs.Yteflbohpabdjkaa
/-
  The reference's disk: Read, walked.
-/
namespace Go.Proofs.Yteflbohpabdjkaa
open Go Go.Mw
set_option maxRecDepth 8000

theorem pad_full {b : List UInt8} (h : b.length = 128) : pad b = b := by unfold pad; rw [h]; simp
section
variable {q : Nat} {a : AM} {F : Nat → Prop} {w w₀ : World} {S : Nat → Prop} {rs : List HP}
theorem refFacts (h : (refA q a).ok F w) : ∃ m : RM, m.abs = a ∧ ∃ vk vo ve pool, m.ok pool ∧ w.heap[q]? = some (.cells (refCells m vk vo ve).toArray 106 (0, 0)) ∧
    (∃ A c, vk = .slice A m.kept.length c ∧ RowAt w A m.kept.length 1 (m.kept.map fun x => secV x.1)) ∧ (∃ A c, vo = .slice A m.opn.length c ∧ RowAt w A m.opn.length 2 (refOpen m.opn)) ∧
    ∀ x ∈ pool, w.heap[x.1]? = some (.cells (x.2.map B).toArray 5 (0, 0)) := by
  obtain ⟨m, hm, H⟩ := Sep.openA (Sep.start1 h)
  obtain ⟨vk, vo, ve, pool, hok, H⟩ := Sep.openRef H
  obtain ⟨Ak, ck, hk, _⟩ := Sep.rowForm H At1
  obtain ⟨Ao, co, ho, _⟩ := Sep.rowForm H At2
  subst hk ho
  exact ⟨m, hm, _, _, _, pool, hok, H.obj At0, ⟨Ak, ck, rfl, Sep.rowAt H At1⟩, ⟨Ao, co, rfl, Sep.rowAt H At2⟩, fun x hx => Sep.pool H At4 (poolOf_mem hx)⟩
theorem sec_row {pool : List (Nat × List UInt8)} {x : Nat × List UInt8} (hp : ∀ x ∈ pool, w.heap[x.1]? = some (.cells (x.2.map B).toArray 5 (0, 0))) (hx : x ∈ pool) (hl : x.2.length = 128) : RowAt w (some ⟨x.1, 0, none⟩) x.2.length 1 (x.2.map B) :=
  rowAt_of_block (hp x hx) (by simp)
theorem readR_ok {at_ : Int} (hs : a.small 100000) (h : (refA q a).ok F w) :
    Rets Try.prog 38 [.pointer (some ⟨q, 0, none⟩), I at_] w fun v w' => ∃ s, v = .tuple #[s, I (a.read at_).2] ∧ True ∧ Turn noB (rowH 5 1 s ((a.read at_).1.getD []).length (((a.read at_).1.getD []).map B)) w w' := by
  obtain ⟨m, rfl, vk, vo, ve, pool, hok, hb, ⟨Ak, ck, hvk, hkr⟩, ⟨Ao, co, hvo, hor⟩, hpool⟩ := refFacts h
  subst hvk hvo
  have H := Sep.start0 w
  have hol := hs.opn
  rw [opn_len] at hol
  refine rets2 Try.func38 rfl rfl rfl rfl ?_
  refine FW_seq ?_
  refine FW_region ?_
  refine FL_assign (h := ?_)
  refine FL_assign (h := ?_)
  refine FL_nil (Qseq_normal ?_)
  refine FW_seq ?_
  refine FW_block ?_
  refine FW_seq ?_
  refine FW_region ?_
  refine FL_move (h := ?_)
  refine FL_val (Gives.nilCheck rfl) rfl ?_
  first | refine FL_val (Gives.field0 rfl) rfl ?_ | refine FL_val (Gives.field rfl) rfl ?_ | refine FL_val (Gives.fieldA rfl) rfl ?_
  refine FL_loadB hb (h := ?_)
  refine FL_assign (h := ?_)
  refine FL_nil (Qseq_normal ?_)
  first | refine FW_condP rfl (fun hc8 => ?_) (fun hc8 => ?_) | refine FW_cond rfl (fun hc8 => ?_) (fun hc8 => ?_)
  · skip
    have hl : m.abs.look at_ = 290 := by unfold AM.look; rw [if_pos (show m.abs.dead = true from hc8)]
    refine FW_seq ?_
    refine FW_region ?_
    refine FL_assign (h := ?_)
    refine FL_assign (h := ?_)
    refine FL_nil (Qseq_normal ?_)
    refine FW_ret (Qblk_ret (Qseq_ret (Qfn_ret (hR := ?_))))
    have hrd : m.abs.read at_ = (none, 290) := by unfold AM.read; rw [hl, if_pos (by decide)]
    rw [hrd]
    exact ⟨_, rfl, trivial, (H.nilRow _ _).turn⟩
  · skip
    have hd : m.dead = false := hc8
    refine FW_seq ?_
    refine FW_region ?_
    refine FL_move (h := ?_)
    refine FL_val (Gives.lss rfl rfl) rfl ?_
    refine FL_move (h := ?_)
    first | refine FL_splitP (t := 15) rfl (fun hs17 => ?_) (fun hs17 => ?_) | refine FL_split (t := 15) rfl (fun hs17 => ?_) (fun hs17 => ?_)
    · skip
      have hr3 : at_ < 0 ∨ m.many ≤ at_ := .inl hs17
      refine FL_off rfl rfl rfl ?_
      refine FL_off rfl rfl rfl ?_
      refine FL_off rfl rfl rfl ?_
      refine FL_off rfl rfl rfl ?_
      refine FL_off rfl rfl rfl ?_
      refine FL_off rfl rfl rfl ?_
      refine FL_pickT (h := ?_)
      refine FL_assign (h := ?_)
      refine FL_nil (Qseq_normal ?_)
      refine FW_cond_true rfl ?_
      refine FW_seq ?_
      refine FW_region ?_
      refine FL_assign (h := ?_)
      refine FL_assign (h := ?_)
      refine FL_nil (Qseq_normal ?_)
      refine FW_ret (Qblk_ret (Qseq_ret (Qfn_ret (hR := ?_))))
      have hl : m.abs.look at_ = 6 := by unfold AM.look; rw [if_neg (show ¬ m.abs.dead = true by rw [show m.abs.dead = false from hd]; simp), if_pos (show at_ < 0 ∨ m.abs.many ≤ at_ from (by first | exact hr3 | exact hr4))]
      have hrd : m.abs.read at_ = (none, 6) := by unfold AM.read; rw [hl, if_pos (by decide)]
      rw [hrd]
      exact ⟨_, rfl, trivial, (H.nilRow _ _).turn⟩
    · skip
      have hn3 := hs17
      refine FL_on rfl rfl ?_
      refine FL_move (h := ?_)
      refine FL_on rfl rfl ?_
      refine FL_move (h := ?_)
      refine FL_on rfl rfl ?_
      refine FL_val (Gives.nilCheck rfl) rfl ?_
      refine FL_on rfl rfl ?_
      first | refine FL_val (Gives.field0 rfl) rfl ?_ | refine FL_val (Gives.field rfl) rfl ?_ | refine FL_val (Gives.fieldA rfl) rfl ?_
      refine FL_on rfl rfl ?_
      refine FL_loadB hb (h := ?_)
      refine FL_on rfl rfl ?_
      refine FL_val (Gives.geq rfl rfl) rfl ?_
      refine FL_pickF (h := ?_)
      refine FL_assign (h := ?_)
      refine FL_nil (Qseq_normal ?_)
      first | refine FW_condP rfl (fun hc33 => ?_) (fun hc33 => ?_) | refine FW_cond rfl (fun hc33 => ?_) (fun hc33 => ?_)
      · skip
        have hr4 : at_ < 0 ∨ m.many ≤ at_ := by first | exact hr3 | exact .inr hc33
        have hl : m.abs.look at_ = 6 := by unfold AM.look; rw [if_neg (show ¬ m.abs.dead = true by rw [show m.abs.dead = false from hd]; simp), if_pos (show at_ < 0 ∨ m.abs.many ≤ at_ from hr4)]
        refine FW_seq ?_
        refine FW_region ?_
        refine FL_assign (h := ?_)
        refine FL_assign (h := ?_)
        refine FL_nil (Qseq_normal ?_)
        refine FW_ret (Qblk_ret (Qseq_ret (Qfn_ret (hR := ?_))))
        have hl : m.abs.look at_ = 6 := by unfold AM.look; rw [if_neg (show ¬ m.abs.dead = true by rw [show m.abs.dead = false from hd]; simp), if_pos (show at_ < 0 ∨ m.abs.many ≤ at_ from (by first | exact hr3 | exact hr4))]
        have hrd : m.abs.read at_ = (none, 6) := by unfold AM.read; rw [hl, if_pos (by decide)]
        rw [hrd]
        exact ⟨_, rfl, trivial, (H.nilRow _ _).turn⟩
      · skip
        have hat : 0 ≤ at_ ∧ at_ < m.many := by omega
        have hl : m.abs.look at_ = 0 := by unfold AM.look; rw [if_neg (show ¬ m.abs.dead = true by rw [show m.abs.dead = false from hd]; simp), if_neg (show ¬ (at_ < 0 ∨ m.abs.many ≤ at_) from (show ¬ (at_ < 0 ∨ m.many ≤ at_) by omega))]
        have hrd : m.abs.read at_ = (some (m.abs.sec at_), 0) := by unfold AM.read; rw [hl, if_neg (by decide)]
        rw [hrd]
        have hsec : m.abs.sec at_ = allT (opsR m.opn) (kf m.kept) at_ := rfl
        refine FW_skip (Qblk_normal (Qseq_normal ?_))
        refine FW_seq ?_
        refine FW_seq ?_
        refine FW_region ?_
        refine FL_move (h := ?_)
        refine FL_val (Gives.nilCheck rfl) rfl ?_
        first | refine FL_val (Gives.field0 rfl) rfl ?_ | refine FL_val (Gives.field rfl) rfl ?_ | refine FL_val (Gives.fieldA rfl) rfl ?_
        refine FL_loadB hb (h := ?_)
        refine FL_val (Gives.lenSlice rfl) rfl ?_
        first | refine FL_val (Gives.subI rfl rfl rfl (by omega)) rfl ?_ | refine FL_val (Gives.sub rfl rfl) rfl ?_
        refine FL_assign (h := ?_)
        refine FL_nil (Qseq_normal ?_)
        refine FW_block ?_
        refine FW_loop' (fun n : Nat => [(0, .pointer (some ⟨q, 0, none⟩)), (1, I at_), (6, I ((n : Int) - 1))])
          (fun n w' => n ≤ m.opn.length ∧ m.abs.sec at_ = allT (opsR (m.opn.take n)) (kf m.kept) at_ ∧ w = w') (fun n _ => n) m.opn.length ⟨rfl, rfl, rfl, trivial⟩ ⟨Nat.le_refl _, by rw [List.take_length, hsec], rfl⟩ (fun n τ wl hI => ?_)
        obtain ⟨hn, hse, rfl⟩ := hI
        try simp only [upds, like, upd_ds, und_ds]
        refine FW_seq ?_
        refine FW_seq ?_
        refine FW_region ?_
        refine FL_move (h := ?_)
        refine FL_val (Gives.geq rfl rfl) rfl ?_
        refine FL_nil (Qseq_normal ?_)
        first | refine FW_condP rfl (fun hc49 => ?_) (fun hc49 => ?_) | refine FW_cond rfl (fun hc49 => ?_) (fun hc49 => ?_)
        · skip
          obtain ⟨i, rfl⟩ : ∃ i, n = i + 1 := ⟨n - 1, by omega⟩
          rw [show ((i + 1 : Nat) : Int) - 1 = (i : Int) from by omega]
          rw [allT_take (by omega)] at hse
          have hlt : i < m.opn.length := by omega
          obtain ⟨ad, hAd, _⟩ := hor.at_ (by omega)
          subst hAd
          refine FW_skip (Qseq_normal ?_)
          refine FW_seq ?_
          refine FW_block ?_
          refine FW_seq ?_
          refine FW_region ?_
          refine FL_move (h := ?_)
          refine FL_val (Gives.nilCheck rfl) rfl ?_
          first | refine FL_val (Gives.field0 rfl) rfl ?_ | refine FL_val (Gives.field rfl) rfl ?_ | refine FL_val (Gives.fieldA rfl) rfl ?_
          refine FL_loadB hb (h := ?_)
          refine FL_move (h := ?_)
          refine FL_val (Gives.idx rfl rfl hlt) rfl ?_
          first | refine FL_val (Gives.field0 rfl) rfl ?_ | refine FL_val (Gives.field rfl) rfl ?_ | refine FL_val (Gives.fieldA rfl) rfl ?_
          refine FL_val (Gives.loadC rfl (hor.elemC rfl i hlt (us := [I m.opn[i].1, secV m.opn[i].2.1]) (refOpen_get m.opn i hlt) 0 _ rfl)) rfl ?_
          refine FL_move (h := ?_)
          refine FL_val (Gives.eql rfl rfl) rfl ?_
          refine FL_nil (Qseq_normal ?_)
          first | refine FW_condP rfl (fun hc61 => ?_) (fun hc61 => ?_) | refine FW_cond rfl (fun hc61 => ?_) (fun hc61 => ?_)
          · skip
            have hC := hc61
            refine FW_seq ?_
            refine FW_region ?_
            refine FL_move (h := ?_)
            refine FL_val (Gives.nilCheck rfl) rfl ?_
            first | refine FL_val (Gives.field0 rfl) rfl ?_ | refine FL_val (Gives.field rfl) rfl ?_ | refine FL_val (Gives.fieldA rfl) rfl ?_
            refine FL_loadB hb (h := ?_)
            refine FL_move (h := ?_)
            refine FL_val (Gives.idx rfl rfl hlt) rfl ?_
            first | refine FL_val (Gives.field0 rfl) rfl ?_ | refine FL_val (Gives.field rfl) rfl ?_ | refine FL_val (Gives.fieldA rfl) rfl ?_
            refine FL_val (Gives.loadC rfl (hor.elemC rfl i hlt (us := [I m.opn[i].1, secV m.opn[i].2.1]) (refOpen_get m.opn i hlt) 1 _ rfl)) rfl ?_
            have hm := hok.opn _ (List.getElem_mem hlt)
            have hl8 := hok.len _ hm
            have hrow := sec_row hpool hm hl8
            rw [hl8] at hrow
            refine FL_callN H (full_ok (A := some ⟨m.opn[i].2.1, 0, none⟩) (c := 128) (l := m.opn[i].2.2) (by rw [hl8]; exact hrow) (by omega)) (by rw [hl8]; rfl) rfl (fun bf w72 _ H72 _ => ?_)
            rw [pad_full hl8] at H72
            refine FL_assign (h := ?_)
            refine FL_assign (h := ?_)
            refine FL_nil (Qseq_normal ?_)
            refine FW_ret (Qblk_ret (Qseq_ret (Qround_ret (Qblk_ret (Qseq_ret (Qfn_ret (hR := ?_)))))))
            have hv : m.abs.sec at_ = m.opn[i].2.2 := by
              rw [hse]
              unfold setT
              rw [if_pos (by omega)]
            exact ⟨_, rfl, trivial, by rw [Option.getD_some, hv, hl8]; exact (Sep.asRow H72 At0 (s := 1) (n := 128) (by rw [List.length_map, hl8]) (by unfold maxLen; decide)).turn⟩
          · skip
            have hC := hc61
            refine FW_skip (Qblk_normal (Qseq_normal ?_))
            refine FW_region ?_
            refine FL_move (h := ?_)
            first | refine FL_val (Gives.subI rfl rfl rfl (by omega)) rfl ?_ | refine FL_val (Gives.sub rfl rfl) rfl ?_
            refine FL_assign (h := ?_)
            refine FL_nil ?_
            refine Qround_normal i ⟨rfl, rfl, rfl, trivial⟩ ⟨by omega, ?_, rfl⟩ (by omega)
            rw [hse]
            unfold setT
            rw [if_neg (by omega)]
        · skip
          have hn0 : n = 0 := by omega
          subst hn0
          have hse0 : m.abs.sec at_ = kf m.kept at_ := hse
          refine FW_exit (Qseq_exit (Qround_exit (Qblk_exit (Qseq_normal ?_))))
          refine FW_seq ?_
          refine FW_seq ?_
          refine FW_region ?_
          refine FL_move (h := ?_)
          refine FL_move (h := ?_)
          refine FL_val (Gives.nilCheck rfl) rfl ?_
          first | refine FL_val (Gives.field0 rfl) rfl ?_ | refine FL_val (Gives.field rfl) rfl ?_ | refine FL_val (Gives.fieldA rfl) rfl ?_
          refine FL_loadB hb (h := ?_)
          refine FL_val (Gives.lenSlice rfl) rfl ?_
          refine FL_val (Gives.lss rfl rfl) rfl ?_
          refine FL_nil (Qseq_normal ?_)
          first | refine FW_condP rfl (fun hc89 => ?_) (fun hc89 => ?_) | refine FW_cond rfl (fun hc89 => ?_) (fun hc89 => ?_)
          · skip
            obtain ⟨an, han⟩ : ∃ an : Nat, at_ = an := ⟨at_.toNat, by omega⟩
            have hltk : an < m.kept.length := by omega
            obtain ⟨kd, hKd, hkc⟩ := hkr.at_ (by omega)
            subst hKd
            have hm := hok.kept _ (List.getElem_mem hltk)
            have hl8 := hok.len _ hm
            have hrow := sec_row hpool hm hl8
            rw [hl8] at hrow
            have hv : m.abs.sec at_ = m.kept[an].2 := by
              rw [hse0]
              unfold kf
              rw [if_pos hat.1, han, Int.toNat_natCast, List.getElem?_eq_getElem hltk]
              rfl
            refine FW_seq ?_
            refine FW_region ?_
            refine FL_move (h := ?_)
            refine FL_val (Gives.nilCheck rfl) rfl ?_
            first | refine FL_val (Gives.field0 rfl) rfl ?_ | refine FL_val (Gives.field rfl) rfl ?_ | refine FL_val (Gives.fieldA rfl) rfl ?_
            refine FL_loadB hb (h := ?_)
            refine FL_move (h := ?_)
            rw [han]
            refine FL_val (Gives.idx rfl rfl hltk) rfl ?_
            refine FL_loadC (hkc (an * 1) (secV m.kept[an].1) (by simp [hltk])) (h := ?_)
            refine FL_callN H (full_ok (A := some ⟨m.kept[an].1, 0, none⟩) (c := 128) (l := m.kept[an].2) (by rw [hl8]; exact hrow) (by omega)) (by rw [hl8]; rfl) rfl (fun bf w99 _ H99 _ => ?_)
            rw [pad_full hl8] at H99
            refine FL_assign (h := ?_)
            refine FL_assign (h := ?_)
            refine FL_nil (Qseq_normal ?_)
            refine FW_ret (Qseq_ret (Qfn_ret (hR := ?_)))
            exact ⟨_, rfl, trivial, by rw [Option.getD_some, ← han, hv, hl8]; exact (Sep.asRow H99 At0 (s := 1) (n := 128) (by rw [List.length_map, hl8]) (by unfold maxLen; decide)).turn⟩
          · skip
            have hv : m.abs.sec at_ = zeroSec := by
              rw [hse0]
              unfold kf
              rw [if_pos hat.1, List.getElem?_eq_none (by omega)]
              rfl
            refine FW_skip (Qseq_normal ?_)
            refine FW_seq ?_
            refine FW_region ?_
            refine FL_callN H (full_ok (A := none) (c := 0) (l := []) (RowAt.nil _ _ _) (by simp)) rfl rfl (fun bf w105 _ H105 _ => ?_)
            refine FL_assign (h := ?_)
            refine FL_assign (h := ?_)
            refine FL_nil (Qseq_normal ?_)
            refine FW_ret (Qfn_ret (hR := ?_))
            exact ⟨_, rfl, trivial, by rw [Option.getD_some, hv, zero_len]; exact (Sep.asRow H105 At0 (s := 1) (n := 128) (by rw [List.length_map]; rfl) (by unfold maxLen; decide)).turn⟩
end
end Go.Proofs.Yteflbohpabdjkaa
/-
  The disk and the reference's disk, side by side: plain laws.
-/
namespace Go.Proofs.Yteflbohpabdjkaa
open Go Go.Mw

def tot (f : Int → Option (List UInt8)) : Int → List UInt8 := fun k => (f k).getD zeroSec
theorem tot_setAt (f : Int → Option (List UInt8)) (k : Int) (b : List UInt8) : tot (setAt f k b) = setT (tot f) k b := by
  funext j
  unfold tot setAt setT
  split <;> rfl
theorem tot_all : ∀ (l : List (Int × List UInt8)) (f : Int → Option (List UInt8)), tot (DM.keptAll l f) = allT l (tot f)
  | [], _ => rfl
  | x :: l, f => by
    unfold DM.keptAll allT
    rw [tot_all l, tot_setAt]
theorem tot_by (keep : List Int) : ∀ (i : Nat) (l : List (Int × List UInt8)) (f : Int → Option (List UInt8)), tot (keptBy keep i l f) = keptT keep i l (tot f)
  | _, [], _ => rfl
  | i, x :: l, f => by
    unfold keptBy keptT
    rw [tot_by keep (i + 1) l]
    split
    · rw [tot_setAt]
    · rfl
/-- The same on numbers from nought on. -/
def same (f g : Int → List UInt8) : Prop := ∀ k, 0 ≤ k → f k = g k
theorem same_set {f g : Int → List UInt8} (h : same f g) (k : Int) (b : List UInt8) : same (setT f k b) (setT g k b) := by
  intro j hj
  unfold setT
  split
  · rfl
  · exact h j hj
theorem same_all : ∀ {l : List (Int × List UInt8)} {f g : Int → List UInt8}, same f g → same (allT l f) (allT l g)
  | [], _, _, h => h
  | x :: l, _, _, h => same_all (l := l) (same_set h x.1 x.2)
theorem same_by {keep : List Int} : ∀ {i : Nat} {l : List (Int × List UInt8)} {f g : Int → List UInt8}, same f g → same (keptT keep i l f) (keptT keep i l g)
  | _, [], _, _, h => h
  | i, x :: l, f, g, h => by
    unfold keptT
    split
    · exact same_by (i := i + 1) (l := l) (same_set h x.1 x.2)
    · exact same_by (i := i + 1) (l := l) h
structure Sim (d : DM) (a : AM) : Prop where
  wf : d.wf
  size : d.size = a.many
  dead : d.dead = a.dead
  ops : d.ops = a.ops
  opn : d.opn = a.opn
  kept : same (tot d.kept) a.kf
  sync : DM.keptAll d.opn d.kept = d.now
  fail : (d.fail = 0 ∧ (a.left ≤ 0 ∨ 2000000 < a.left + a.ops)) ∨ (d.fail = d.ops + a.left ∧ 0 < a.left ∧ d.keep = a.keep)
namespace Sim
variable {d : DM} {a : AM}
theorem look (h : Sim d a) (k : Int) : d.look k = a.look k := by
  unfold DM.look AM.look
  rw [h.dead, h.size]
theorem sec (h : Sim d a) {k : Int} (hk : 0 ≤ k) : d.sec k = a.sec k := by
  have h1 : d.sec k = tot d.now k := rfl
  rw [h1, ← h.sync, tot_all, h.opn]
  exact same_all h.kept k hk
theorem read (h : Sim d a) (k : Int) : d.read k = a.read k := by
  unfold DM.read AM.read
  rw [h.look]
  split
  · rfl
  · rename_i hl
    have : 0 ≤ k := by
      have hl : a.look k = 0 := by simpa using hl
      rw [← h.look] at hl
      exact (look_zero hl).2.1
    rw [h.sec this]
theorem new (n : Int) (hn : 1 ≤ n ∧ n ≤ 65536) : Sim (DM.new n) (AM.new n) :=
  ⟨⟨hn.1, hn.2, fun _ _ h => (by cases h), fun _ _ h => (by cases h), fun _ h => (by cases h)⟩, rfl, rfl, rfl, rfl, fun _ _ => rfl, rfl, .inl ⟨rfl, .inl (Int.le_refl 0)⟩⟩
theorem fall (h : Sim d a) (keep : List Int) : Sim (d.fall keep) (a.fall keep) := by
  refine ⟨h.wf.fall keep, h.size, rfl, h.ops, rfl, ?_, rfl, .inl ⟨rfl, .inl (Int.le_refl 0)⟩⟩
  show same (tot (keptBy keep 0 d.opn d.kept)) (keptT keep 0 a.opn a.kf)
  rw [tot_by, h.opn]
  exact same_by h.kept
theorem boot (h : Sim d a) : Sim d.boot a.boot := ⟨h.wf, h.size, rfl, h.ops, h.opn, h.kept, h.sync, h.fail⟩
theorem crash (h : Sim d a) (keep : List Int) : Sim (d.crash keep) (a.crash keep) := by
  unfold DM.crash AM.crash
  rw [h.dead]
  split
  · exact h
  · exact h.fall keep
theorem put (h : Sim d a) {k : Int} {b : List UInt8} (hb : b.length ≤ 128) : Sim (d.put k b) (a.put k b) := by
  refine ⟨h.wf.put hb, h.size, h.dead, h.ops, ?_, h.kept, ?_, h.fail⟩
  · show d.opn ++ _ = a.opn ++ _
    rw [h.opn]
  · show DM.keptAll (d.opn ++ [(k, pad b)]) d.kept = setAt d.now k (pad b)
    rw [keptAll_append, h.sync]
    rfl
theorem op (h : Sim d a) (h0 : 0 ≤ d.ops ∧ d.ops ≤ 1000000) : d.count.1 = !a.fails ∧ Sim d.count.2 (if a.fails then a.counts.fall a.keep else a.counts) := by
  have hf := h.fail
  have ho := h.ops
  have hiff : d.ops + 1 = d.fail ↔ a.left - 1 = 0 := by
    rcases hf with ⟨h1, h2⟩ | ⟨h1, h2, _⟩ <;> constructor <;> intro <;> omega
  unfold DM.count AM.fails
  by_cases hc : a.left - 1 = 0
  · rw [if_pos (hiff.2 hc), decide_eq_true hc, if_pos rfl]
    refine ⟨rfl, ?_⟩
    have hk : d.keep = a.keep := by
      rcases hf with ⟨h1, h2⟩ | ⟨_, _, h3⟩
      · omega
      · exact h3
    have h1 : Sim { d with ops := d.ops + 1, fail := 0 } { a.counts with left := 0 } := ⟨h.wf, h.size, h.dead, by show d.ops + 1 = a.ops + 1; rw [ho], h.opn, h.kept, h.sync, .inl ⟨rfl, .inl (Int.le_refl 0)⟩⟩
    rw [hk]
    exact h1.fall a.keep
  · rw [if_neg fun e => hc (hiff.1 e), decide_eq_false hc, if_neg (by simp)]
    refine ⟨rfl, h.wf, h.size, h.dead, by show d.ops + 1 = a.ops + 1; rw [ho], h.opn, h.kept, h.sync, ?_⟩
    show (d.fail = 0 ∧ (a.left - 1 ≤ 0 ∨ 2000000 < a.left - 1 + (a.ops + 1))) ∨ (d.fail = d.ops + 1 + (a.left - 1) ∧ 0 < a.left - 1 ∧ d.keep = a.keep)
    rcases hf with ⟨h1, h2⟩ | ⟨h1, h2, h3⟩
    · exact .inl ⟨h1, by omega⟩
    · exact .inr ⟨by omega, by omega, h3⟩
theorem write (h : Sim d a) (h0 : 0 ≤ d.ops ∧ d.ops ≤ 1000000) (k : Int) (b : List UInt8) : (d.write k b).1 = (a.write k b).1 ∧ Sim (d.write k b).2 (a.write k b).2 := by
  unfold DM.write AM.write
  rw [h.look]
  split
  · exact ⟨rfl, h⟩
  · split
    · exact ⟨rfl, h⟩
    · obtain ⟨h1, h2⟩ := (h.put (k := k) (b := b) (by omega)).op h0
      unfold AM.op
      rw [h1]
      cases hf : (a.put k b).fails
      · rw [hf] at h2
        exact ⟨rfl, h2⟩
      · rw [hf] at h2
        exact ⟨rfl, h2⟩
theorem flush (h : Sim d a) (h0 : 0 ≤ d.ops ∧ d.ops ≤ 1000000) : d.flush.1 = a.flush.1 ∧ Sim d.flush.2 a.flush.2 := by
  have hl : d.look 0 = if a.dead then 290 else 0 := by
    unfold DM.look
    rw [h.dead]
    split
    · rfl
    · rw [if_neg (by have := h.wf.1; omega)]
  obtain ⟨h1, h2⟩ := h.op h0
  unfold DM.flush AM.flush AM.op
  rw [hl]
  cases hd : a.dead
  · cases hf : a.fails
    · rw [hf] at h1 h2
      simp only [Bool.false_eq_true, if_false, h1, Bool.not_false, if_true, ne_eq, not_true_eq_false]
      refine ⟨trivial, ⟨h2.wf.1, h2.wf.2.1, keptAll_wf h.wf.2.2.2.2 h.wf.2.2.1, h2.wf.2.2.2.1, fun _ hx => (by cases hx)⟩, h2.size, h2.dead, h2.ops, rfl, ?_, ?_, h2.fail⟩
      · show same (tot (DM.keptAll d.opn d.kept)) (allT a.opn a.kf)
        rw [tot_all, h.opn]
        exact same_all h.kept
      · show DM.keptAll d.opn d.kept = d.count.2.now
        rw [h.sync]
        unfold DM.count at h1 ⊢
        split <;> simp_all
    · rw [hf] at h1 h2
      simp only [Bool.false_eq_true, if_false, h1, Bool.not_true, if_true, ne_eq, not_true_eq_false]
      exact ⟨trivial, h2⟩
  · simp only [if_true]
    rw [if_pos (show (290 : Int) ≠ 0 by decide)]
    exact ⟨rfl, h⟩
theorem failAt (h : Sim d a) (h0 : 0 ≤ d.ops ∧ d.ops ≤ 1000000) (ops : Int) (keep : List Int) : Sim (d.failAt ops keep) (a.fail ops keep) := by
  have ho := h.ops
  unfold DM.failAt AM.fail
  rw [h.dead]
  split
  · exact h
  · split
    · rename_i h1
      exact ⟨h.wf, h.size, rfl, h.ops, h.opn, h.kept, h.sync, .inr ⟨by show d.ops + ops = d.ops + max ops 0; omega, by show 0 < max ops 0; omega, rfl⟩⟩
    · rename_i h1
      exact ⟨h.wf, h.size, rfl, h.ops, h.opn, h.kept, h.sync, .inl ⟨rfl, by show max ops 0 ≤ 0 ∨ 2000000 < max ops 0 + a.ops; omega⟩⟩
end Sim
end Go.Proofs.Yteflbohpabdjkaa
