/-
  The disk, told plainly: what its methods do to it, as Lean functions; and how it lies in memory.
-/
import Derived.Test.YteflbohpabdjkaaFacts
import Derived.Test.YteflbohpabdjkaaMwC
namespace Go.Proofs.Yteflbohpabdjkaa
open Go Go.Mw

/-- A byte, a number as values. -/
def B (u : UInt8) : Value := .int .u8 u.toNat
def I (k : Int) : Value := .int .i64 k
def blkV (b : List UInt8) : Value := .agg (b.map B).toArray
def fits (k : Int) : Prop := -9223372036854775808 ≤ k ∧ k ≤ 9223372036854775807

structure DM where
  size : Int
  kept : Int → Option (List UInt8)
  now : Int → Option (List UInt8)
  opn : List (Int × List UInt8)
  dead : Bool
  ops : Int
  fail : Int
  keep : List Int

def pad (b : List UInt8) : List UInt8 := b ++ List.replicate (128 - b.length) 0
def setAt (f : Int → Option (List UInt8)) (k : Int) (b : List UInt8) : Int → Option (List UInt8) := fun x => if x = k then some b else f x
/-- The open writes whose numbers (from i on) are kept, laid over what stays. -/
def keptBy (keep : List Int) : (i : Nat) → List (Int × List UInt8) → (Int → Option (List UInt8)) → Int → Option (List UInt8)
  | _, [], f => f
  | i, x :: l, f => keptBy keep (i + 1) l (if keep.contains (i : Int) then setAt f x.1 x.2 else f)
namespace DM
def wf (d : DM) : Prop := 1 ≤ d.size ∧ d.size ≤ 65536 ∧ (∀ k b, d.kept k = some b → b.length = 128) ∧ (∀ k b, d.now k = some b → b.length = 128) ∧ ∀ x ∈ d.opn, x.2.length = 128
def look (d : DM) (at_ : Int) : Int := if d.dead then 290 else if at_ < 0 ∨ d.size ≤ at_ then 6 else 0
def fall (d : DM) (keep : List Int) : DM := { d with kept := keptBy keep 0 d.opn d.kept, now := keptBy keep 0 d.opn d.kept, opn := [], dead := true, fail := 0, keep := [] }
def count (d : DM) : Bool × DM := if d.ops + 1 = d.fail then (false, fall { d with ops := d.ops + 1 } d.keep) else (true, { d with ops := d.ops + 1 })
def put (d : DM) (at_ : Int) (b : List UInt8) : DM := { d with opn := d.opn ++ [(at_, pad b)], now := setAt d.now at_ (pad b) }
def write (d : DM) (at_ : Int) (b : List UInt8) : Int × DM :=
  if d.look at_ ≠ 0 then (d.look at_, d) else if 128 < b.length then (5, d) else
  ((if (d.put at_ b).count.1 then 0 else 290), (d.put at_ b).count.2)
/-- What a sector shows. -/
def sec (d : DM) (at_ : Int) : List UInt8 := (d.now at_).getD (List.replicate 128 0)
def read (d : DM) (at_ : Int) : Option (List UInt8) × Int := if d.look at_ ≠ 0 then (none, d.look at_) else (some (d.sec at_), 0)
def keptAll : List (Int × List UInt8) → (Int → Option (List UInt8)) → Int → Option (List UInt8)
  | [], f => f
  | x :: l, f => keptAll l (setAt f x.1 x.2)
def flush (d : DM) : Int × DM :=
  if d.look 0 ≠ 0 then (d.look 0, d) else if d.count.1 then (0, { d.count.2 with kept := keptAll d.opn d.kept, opn := [] }) else (290, d.count.2)
def failAt (d : DM) (ops : Int) (keep : List Int) : DM :=
  if d.dead then d else if 0 < ops ∧ ops ≤ 4611686018427387904 - d.ops then { d with fail := d.ops + ops, keep := keep } else { d with fail := 0, keep := [] }
def crash (d : DM) (keep : List Int) : DM := if d.dead then d else d.fall keep
def boot (d : DM) : DM := { d with dead := false }
theorem sec_length {d : DM} (h : d.wf) (k : Int) : (d.sec k).length = 128 := by
  unfold sec
  cases hq : d.now k with
  | none => rw [Option.getD_none, List.length_replicate]
  | some b => exact h.2.2.2.1 _ _ hq
end DM

/-- How a disk lies in memory. -/
def openCells (l : List (Int × List UInt8)) : List Value := l.flatMap fun x => I x.1 :: x.2.map B
def dmap (f : Int → Option (List UInt8)) : Int → Option Value := fun k => (f k).map blkV
def diskCells (d : DM) (bk bn : Nat) (vo vk : Value) : List Value := [I d.size, .map (some bk), .map (some bn), vo, .bool d.dead, I d.ops, I d.fail, vk]
def diskParts (p : Nat) (d : DM) (x : Nat × Nat × Value × Value) : List HP :=
  [blk p (diskCells d x.1 x.2.1 x.2.2.1 x.2.2.2) 64, mapI x.1 (dmap d.kept), mapI x.2.1 (dmap d.now), rowH 101 129 x.2.2.1 d.opn.length (openCells d.opn), rowH 3 1 x.2.2.2 d.keep.length (d.keep.map I)]
def diskH (p : Nat) (d : DM) : HP := exH fun x => star (pureH d.wf) (starL (diskParts p d x))
theorem Sep.openDisk {w₀ w : World} {S : Nat → Prop} {rs : List HP} {p : Nat} {d : DM} (h : Sep w₀ S (diskH p d :: rs) w) : d.wf ∧ ∃ bk bn vo vk, Sep w₀ S (blk p (diskCells d bk bn vo vk) 64 :: mapI bk (dmap d.kept) :: mapI bn (dmap d.now) :: rowH 101 129 vo d.opn.length (openCells d.opn) :: rowH 3 1 vk d.keep.length (d.keep.map I) :: rs) w := by
  obtain ⟨⟨bk, bn, vo, vk⟩, h⟩ := h.ex0
  obtain ⟨hwf, h⟩ := h.star0.pure0
  exact ⟨hwf, bk, bn, vo, vk, h.parts⟩
theorem Sep.shutDisk {w₀ w : World} {S : Nat → Prop} {rs : List HP} {p : Nat} {d : DM} {bk bn : Nat} {vo vk : Value} (hwf : d.wf) (h : Sep w₀ S (blk p (diskCells d bk bn vo vk) 64 :: mapI bk (dmap d.kept) :: mapI bn (dmap d.now) :: rowH 101 129 vo d.opn.length (openCells d.opn) :: rowH 3 1 vk d.keep.length (d.keep.map I) :: rs) w) : Sep w₀ S (diskH p d :: rs) w := by
  refine Sep.pack0 (p := fun x => star (pureH d.wf) (starL (diskParts p d x))) (bk, bn, vo, vk) (Sep.join0 (Sep.addPure hwf ?_))
  exact Sep.bundle (l := diskParts p d (bk, bn, vo, vk)) h
theorem diskH_blk {p : Nat} {d : DM} {F : Nat → Prop} {w : World} (h : (diskH p d).ok F w) : d.wf ∧ ∃ bk bn vo vk, w.heap[p]? = some (.cells (diskCells d bk bn vo vk).toArray 64 (0, 0)) := by
  obtain ⟨hwf, bk, bn, vo, vk, H⟩ := Sep.openDisk (Sep.start1 h)
  exact ⟨hwf, bk, bn, vo, vk, H.obj At0⟩
theorem diskH_now {p : Nat} {d : DM} {F : Nat → Prop} {w : World} (h : (diskH p d).ok F w) : d.wf ∧ ∃ bk bn vo vk, w.heap[p]? = some (.cells (diskCells d bk bn vo vk).toArray 64 (0, 0)) ∧ ∃ es c, w.heap[bn]? = some (.map es c) ∧ intKeys es.toList ∧ ∀ k, mget es.toList k = dmap d.now k := by
  obtain ⟨hwf, bk, bn, vo, vk, H⟩ := Sep.openDisk (Sep.start1 h)
  exact ⟨hwf, bk, bn, vo, vk, H.obj At0, H.mapAt At2⟩
end Go.Proofs.Yteflbohpabdjkaa
/-
  The disk's methods that only look, walked.
-/
namespace Go.Proofs.Yteflbohpabdjkaa
open Go Go.Mw
set_option maxRecDepth 4000

section
variable {p : Nat} {d : DM} {F : Nat → Prop} {w : World}
theorem none_ok (h : (diskH p d).ok F w) : Rets Try.prog 62 [.pointer (some ⟨p, 0, none⟩)] w fun v w' => v = .bool false ∧ w = w' := by
  obtain ⟨⟨hs, _⟩, bk, bn, vo, vk, hb⟩ := diskH_blk h
  refine rets1 Try.func62 rfl rfl rfl rfl ?_
  refine FW_seq ?_
  refine FW_region ?_
  refine FL_assign (h := ?_)
  refine FL_nil (Qseq_normal ?_)
  refine FW_seq ?_
  refine FW_region ?_
  refine FL_move (h := ?_)
  refine FL_val (Gives.eqlNil rfl rfl) rfl ?_
  refine FL_move (h := ?_)
  first | refine FL_splitP (t := 5) rfl (fun hs5 => ?_) (fun hs5 => ?_) | refine FL_split (t := 5) rfl (fun hs5 => ?_) (fun hs5 => ?_)
  · skip
    simp at hs5 --done
  · skip
    refine FL_on rfl rfl ?_
    refine FL_move (h := ?_)
    refine FL_on rfl rfl ?_
    refine FL_val (Gives.nilCheck rfl) rfl ?_
    refine FL_on rfl rfl ?_
    first | refine FL_val (Gives.field0 rfl) rfl ?_ | refine FL_val (Gives.field rfl) rfl ?_ | refine FL_val (Gives.fieldA rfl) rfl ?_
    refine FL_on rfl rfl ?_
    refine FL_loadB hb (h := ?_)
    refine FL_on rfl rfl ?_
    refine FL_val (Gives.eql rfl rfl) rfl ?_
    refine FL_pickF (h := ?_)
    refine FL_assign (h := ?_)
    refine FL_nil (Qseq_normal ?_)
    refine FW_ret (Qfn_ret (hR := ?_))
    exact ⟨by simp only [resPack, decide_eq_false (show ¬ d.size = 0 by omega)], rfl⟩
theorem none_nil : Rets Try.prog 62 [.pointer none] w fun v w' => v = .bool true ∧ w = w' := by
  refine rets1 Try.func62 rfl rfl rfl rfl ?_
  refine FW_seq ?_
  refine FW_region ?_
  refine FL_assign (h := ?_)
  refine FL_nil (Qseq_normal ?_)
  refine FW_seq ?_
  refine FW_region ?_
  refine FL_move (h := ?_)
  refine FL_val (Gives.eqlNil rfl rfl) rfl ?_
  refine FL_move (h := ?_)
  first | refine FL_splitP (t := 5) rfl (fun hs5 => ?_) (fun hs5 => ?_) | refine FL_split (t := 5) rfl (fun hs5 => ?_) (fun hs5 => ?_)
  · skip
    refine FL_off rfl rfl rfl ?_
    refine FL_off rfl rfl rfl ?_
    refine FL_off rfl rfl rfl ?_
    refine FL_off rfl rfl rfl ?_
    refine FL_off rfl rfl rfl ?_
    refine FL_pickT (h := ?_)
    refine FL_assign (h := ?_)
    refine FL_nil (Qseq_normal ?_)
    refine FW_ret (Qfn_ret (hR := ?_))
    exact ⟨rfl, rfl⟩
  · skip
    simp at hs5 --done
theorem look_ok (at_ : Int) (h : (diskH p d).ok F w) : Rets Try.prog 64 [.pointer (some ⟨p, 0, none⟩), I at_] w fun v w' => v = I (d.look at_) ∧ w = w' := by
  obtain ⟨⟨hs, _⟩, bk, bn, vo, vk, hb⟩ := diskH_blk h
  refine rets2 Try.func64 rfl rfl rfl rfl ?_
  refine FW_seq ?_
  refine FW_region ?_
  refine FL_assign (h := ?_)
  refine FL_nil (Qseq_normal ?_)
  refine FW_seq ?_
  refine FW_block ?_
  refine FW_seq ?_
  refine FW_region ?_
  refine FL_move (h := ?_)
  refine FL_callS (none_ok h) (h := ?_)
  refine FL_assign (h := ?_)
  refine FL_nil (Qseq_normal ?_)
  first | refine FW_condP rfl (fun hc5 => ?_) (fun hc5 => ?_) | refine FW_cond rfl (fun hc5 => ?_) (fun hc5 => ?_)
  · skip
    cases hc5 --done
  · skip
    refine FW_seq ?_
    refine FW_region ?_
    refine FL_move (h := ?_)
    refine FL_val (Gives.nilCheck rfl) rfl ?_
    first | refine FL_val (Gives.field0 rfl) rfl ?_ | refine FL_val (Gives.field rfl) rfl ?_ | refine FL_val (Gives.fieldA rfl) rfl ?_
    refine FL_loadB hb (h := ?_)
    refine FL_assign (h := ?_)
    refine FL_nil (Qseq_normal ?_)
    first | refine FW_condP rfl (fun hc12 => ?_) (fun hc12 => ?_) | refine FW_cond rfl (fun hc12 => ?_) (fun hc12 => ?_)
    · skip
      refine FW_seq ?_
      refine FW_region ?_
      refine FL_assign (h := ?_)
      refine FL_nil (Qseq_normal ?_)
      refine FW_ret (Qblk_ret (Qseq_ret (Qfn_ret (hR := ?_))))
      exact ⟨by simp_all [resPack, DM.look, I], rfl⟩
    · skip
      refine FW_seq ?_
      refine FW_region ?_
      refine FL_move (h := ?_)
      refine FL_val (Gives.lss rfl rfl) rfl ?_
      refine FL_move (h := ?_)
      first | refine FL_splitP (t := 16) rfl (fun hs18 => ?_) (fun hs18 => ?_) | refine FL_split (t := 16) rfl (fun hs18 => ?_) (fun hs18 => ?_)
      · skip
        refine FL_off rfl rfl rfl ?_
        refine FL_off rfl rfl rfl ?_
        refine FL_off rfl rfl rfl ?_
        refine FL_off rfl rfl rfl ?_
        refine FL_off rfl rfl rfl ?_
        refine FL_off rfl rfl rfl ?_
        refine FL_pickT (h := ?_)
        refine FL_assign (h := ?_)
        refine FL_nil (Qseq_normal ?_)
        refine FW_cond_true rfl ?_
        refine FW_seq ?_
        refine FW_region ?_
        refine FL_assign (h := ?_)
        refine FL_nil (Qseq_normal ?_)
        refine FW_ret (Qblk_ret (Qseq_ret (Qfn_ret (hR := ?_))))
        exact ⟨by simp_all [resPack, DM.look, I], rfl⟩
      · skip
        refine FL_on rfl rfl ?_
        refine FL_move (h := ?_)
        refine FL_on rfl rfl ?_
        refine FL_move (h := ?_)
        refine FL_on rfl rfl ?_
        refine FL_val (Gives.nilCheck rfl) rfl ?_
        refine FL_on rfl rfl ?_
        first | refine FL_val (Gives.field0 rfl) rfl ?_ | refine FL_val (Gives.field rfl) rfl ?_ | refine FL_val (Gives.fieldA rfl) rfl ?_
        refine FL_on rfl rfl ?_
        refine FL_loadB hb (h := ?_)
        refine FL_on rfl rfl ?_
        refine FL_val (Gives.geq rfl rfl) rfl ?_
        refine FL_pickF (h := ?_)
        refine FL_assign (h := ?_)
        refine FL_nil (Qseq_normal ?_)
        first | refine FW_condP rfl (fun hc31 => ?_) (fun hc31 => ?_) | refine FW_cond rfl (fun hc31 => ?_) (fun hc31 => ?_)
        · skip
          refine FW_seq ?_
          refine FW_region ?_
          refine FL_assign (h := ?_)
          refine FL_nil (Qseq_normal ?_)
          refine FW_ret (Qblk_ret (Qseq_ret (Qfn_ret (hR := ?_))))
          exact ⟨by simp_all [resPack, DM.look, I], rfl⟩
        · skip
          refine FW_skip (Qblk_normal (Qseq_normal ?_))
          refine FW_seq ?_
          refine FW_region ?_
          refine FL_assign (h := ?_)
          refine FL_nil (Qseq_normal ?_)
          refine FW_ret (Qfn_ret (hR := ?_))
          exact ⟨by simp_all [resPack, DM.look, I], rfl⟩
end
end Go.Proofs.Yteflbohpabdjkaa
/-
  The disk's methods, walked: the small ones, clones, count and what falls.
-/
namespace Go.Proofs.Yteflbohpabdjkaa
open Go Go.Mw
set_option maxRecDepth 4000

section
variable {p : Nat} {d : DM} {F : Nat → Prop} {w : World}
theorem size_ok (h : (diskH p d).ok F w) : Rets Try.prog 45 [.pointer (some ⟨p, 0, none⟩)] w fun v w' => v = I d.size ∧ w = w' := by
  obtain ⟨⟨hs, _⟩, bk, bn, vo, vk, hb⟩ := diskH_blk h
  refine rets1 Try.func45 rfl rfl rfl rfl ?_
  refine FW_seq ?_
  refine FW_region ?_
  refine FL_assign (h := ?_)
  refine FL_nil (Qseq_normal ?_)
  refine FW_seq ?_
  refine FW_seq ?_
  refine FW_region ?_
  refine FL_move (h := ?_)
  refine FL_callS (none_ok h) (h := ?_)
  refine FL_nil (Qseq_normal ?_)
  first | refine FW_condP rfl (fun hc4 => ?_) (fun hc4 => ?_) | refine FW_cond rfl (fun hc4 => ?_) (fun hc4 => ?_)
  · skip
    cases hc4 --done
  · skip
    refine FW_skip (Qseq_normal ?_)
    refine FW_seq ?_
    refine FW_region ?_
    refine FL_move (h := ?_)
    refine FL_val (Gives.nilCheck rfl) rfl ?_
    first | refine FL_val (Gives.field0 rfl) rfl ?_ | refine FL_val (Gives.field rfl) rfl ?_ | refine FL_val (Gives.fieldA rfl) rfl ?_
    refine FL_loadB hb (h := ?_)
    refine FL_assign (h := ?_)
    refine FL_nil (Qseq_normal ?_)
    refine FW_ret (Qfn_ret (hR := ?_))
    exact ⟨rfl, rfl⟩
theorem ops_ok (h : (diskH p d).ok F w) : Rets Try.prog 30 [.pointer (some ⟨p, 0, none⟩)] w fun v w' => v = I d.ops ∧ w = w' := by
  obtain ⟨⟨hs, _⟩, bk, bn, vo, vk, hb⟩ := diskH_blk h
  refine rets1 Try.func30 rfl rfl rfl rfl ?_
  refine FW_seq ?_
  refine FW_region ?_
  refine FL_assign (h := ?_)
  refine FL_nil (Qseq_normal ?_)
  refine FW_seq ?_
  refine FW_seq ?_
  refine FW_region ?_
  refine FL_move (h := ?_)
  refine FL_callS (none_ok h) (h := ?_)
  refine FL_nil (Qseq_normal ?_)
  first | refine FW_condP rfl (fun hc4 => ?_) (fun hc4 => ?_) | refine FW_cond rfl (fun hc4 => ?_) (fun hc4 => ?_)
  · skip
    cases hc4 --done
  · skip
    refine FW_skip (Qseq_normal ?_)
    refine FW_seq ?_
    refine FW_region ?_
    refine FL_move (h := ?_)
    refine FL_val (Gives.nilCheck rfl) rfl ?_
    first | refine FL_val (Gives.field0 rfl) rfl ?_ | refine FL_val (Gives.field rfl) rfl ?_ | refine FL_val (Gives.fieldA rfl) rfl ?_
    refine FL_loadB hb (h := ?_)
    refine FL_assign (h := ?_)
    refine FL_nil (Qseq_normal ?_)
    refine FW_ret (Qfn_ret (hR := ?_))
    exact ⟨rfl, rfl⟩
theorem alive_ok (h : (diskH p d).ok F w) : Rets Try.prog 29 [.pointer (some ⟨p, 0, none⟩)] w fun v w' => v = .bool (!d.dead) ∧ w = w' := by
  obtain ⟨⟨hs, _⟩, bk, bn, vo, vk, hb⟩ := diskH_blk h
  refine rets1 Try.func29 rfl rfl rfl rfl ?_
  refine FW_seq ?_
  refine FW_region ?_
  refine FL_assign (h := ?_)
  refine FL_nil (Qseq_normal ?_)
  refine FW_seq ?_
  refine FW_region ?_
  refine FL_move (h := ?_)
  refine FL_callS (none_ok h) (h := ?_)
  first | refine FL_val (Gives.notP rfl) rfl ?_ | refine FL_val (Gives.not rfl) rfl ?_
  refine FL_move (h := ?_)
  first | refine FL_splitP (t := 6) rfl (fun hs6 => ?_) (fun hs6 => ?_) | refine FL_split (t := 6) rfl (fun hs6 => ?_) (fun hs6 => ?_)
  · skip
    refine FL_on rfl rfl ?_
    refine FL_move (h := ?_)
    refine FL_on rfl rfl ?_
    refine FL_val (Gives.nilCheck rfl) rfl ?_
    refine FL_on rfl rfl ?_
    first | refine FL_val (Gives.field0 rfl) rfl ?_ | refine FL_val (Gives.field rfl) rfl ?_ | refine FL_val (Gives.fieldA rfl) rfl ?_
    refine FL_on rfl rfl ?_
    refine FL_loadB hb (h := ?_)
    refine FL_on rfl rfl ?_
    first | refine FL_val (Gives.notP rfl) rfl ?_ | refine FL_val (Gives.not rfl) rfl ?_
    refine FL_pickT (h := ?_)
    refine FL_assign (h := ?_)
    refine FL_nil (Qseq_normal ?_)
    refine FW_ret (Qfn_ret (hR := ?_))
    exact ⟨rfl, rfl⟩
  · skip
    cases hs6 --done
theorem boot_ok (h : (diskH p d).ok F w) : Rets Try.prog 21 [.pointer (some ⟨p, 0, none⟩)] w fun v w' => v = .tuple #[] ∧ Turn F (diskH p d.boot) w w' := by
  obtain ⟨hwf, bk, bn, vo, vk, H⟩ := Sep.openDisk (Sep.start1 h)
  refine rets1 Try.func21 rfl rfl rfl rfl ?_
  refine FW_seq ?_
  refine FW_region ?_
  refine FL_move (h := ?_)
  refine FL_callS (none_ok h) (h := ?_)
  first | refine FL_val (Gives.notP rfl) rfl ?_ | refine FL_val (Gives.not rfl) rfl ?_
  refine FL_nil (Qseq_normal ?_)
  first | refine FW_condP rfl (fun hc4 => ?_) (fun hc4 => ?_) | refine FW_cond rfl (fun hc4 => ?_) (fun hc4 => ?_)
  · skip
    refine FW_region ?_
    refine FL_move (h := ?_)
    refine FL_val (Gives.nilCheck rfl) rfl ?_
    first | refine FL_val (Gives.field0 rfl) rfl ?_ | refine FL_val (Gives.field rfl) rfl ?_ | refine FL_val (Gives.fieldA rfl) rfl ?_
    refine FL_store H (h := ?_)
    intro w9 H9
    refine FL_nil (Qfn_normal (hR := ?_))
    exact ⟨rfl, (Sep.shutDisk (d := d.boot) hwf H9).turn⟩
  · skip
    cases hc4 --done
end
end Go.Proofs.Yteflbohpabdjkaa
/-
  slices.Clone, maps.Clone, slices.Index and slices.Contains, walked.
-/
namespace Go.Proofs.Yteflbohpabdjkaa
open Go Go.Mw
set_option maxRecDepth 4000

section
variable {w : World}
theorem cloneInts_ok {A : Option Addr} {n c : Nat} {xs : List Value} (hr : RowAt w A n 1 xs) (h1 : ∀ u ∈ xs, u.oneCell' = true) (hn : n ≤ 1000000000000) : Rets Try.prog 66 [.slice A n c] w fun v w' => ∃ v', v = v' ∧ True ∧ Turn noB (rowH 3 1 v' n xs) w w' := by
  have H := Sep.start0 w
  refine rets1 Try.func66 rfl rfl rfl rfl ?_
  refine FW_seq ?_
  refine FW_region ?_
  refine FL_assign (h := ?_)
  refine FL_nil (Qseq_normal ?_)
  refine FW_seq ?_
  refine FW_seq ?_
  refine FW_region ?_
  refine FL_move (h := ?_)
  refine FL_val (Gives.eqlNilSl rfl rfl) rfl ?_
  refine FL_nil (Qseq_normal ?_)
  first | refine FW_condP rfl (fun hc4 => ?_) (fun hc4 => ?_) | refine FW_cond rfl (fun hc4 => ?_) (fun hc4 => ?_)
  · skip
    have hA : A = none := by simpa using hc4
    subst hA
    have hn0 : n = 0 := by
      rcases Nat.eq_zero_or_pos n with h0 | h0
      · exact h0
      · obtain ⟨_, h, _⟩ := hr.at_ h0; cases h
    subst hn0
    have hx : xs = [] := List.eq_nil_of_length_eq_zero (by simpa using hr.len)
    subst hx
    refine FW_seq ?_
    refine FW_region ?_
    refine FL_assign (h := ?_)
    refine FL_nil (Qseq_normal ?_)
    refine FW_ret (Qseq_ret (Qfn_ret (hR := ?_)))
    exact ⟨_, rfl, trivial, (H.nilRow _ _).turn⟩ --done
  · skip
    refine FW_skip (Qseq_normal ?_)
    refine FW_seq ?_
    refine FW_region ?_
    refine FL_buildSlice H Elems.nil rfl rfl rfl (fun b6 w7 H7 k6 => ?_)
    have hr2 := hr.keep k6
    have H2 := Sep.asRow H7 At0 (s := 1) (n := 0) rfl (by decide)
    refine FL_move (h := ?_)
    refine FL_append H2 (hx := by exact rfl) (hy := by exact rfl) (hat := At0) hr2 h1 (h63 := by unfold maxLen; omega) (hbytes := by omega) (h := fun v9 w10 H10 => ?_)
    refine FL_assign (h := ?_)
    refine FL_nil (Qseq_normal ?_)
    refine FW_ret (Qfn_ret (hR := ?_))
    rw [Nat.zero_add] at H10
    exact ⟨_, rfl, trivial, H10.turn⟩
theorem cloneOpens_ok {A : Option Addr} {n c : Nat} {xs : List Value} (hr : RowAt w A n 129 xs) (h1 : ∀ u ∈ xs, u.oneCell' = true) (hn : n ≤ 1000000000000) : Rets Try.prog 68 [.slice A n c] w fun v w' => ∃ v', v = v' ∧ True ∧ Turn noB (rowH 101 129 v' n xs) w w' := by
  have H := Sep.start0 w
  refine rets1 Try.func68 rfl rfl rfl rfl ?_
  refine FW_seq ?_
  refine FW_region ?_
  refine FL_assign (h := ?_)
  refine FL_nil (Qseq_normal ?_)
  refine FW_seq ?_
  refine FW_seq ?_
  refine FW_region ?_
  refine FL_move (h := ?_)
  refine FL_val (Gives.eqlNilSl rfl rfl) rfl ?_
  refine FL_nil (Qseq_normal ?_)
  first | refine FW_condP rfl (fun hc4 => ?_) (fun hc4 => ?_) | refine FW_cond rfl (fun hc4 => ?_) (fun hc4 => ?_)
  · skip
    have hA : A = none := by simpa using hc4
    subst hA
    have hn0 : n = 0 := by
      rcases Nat.eq_zero_or_pos n with h0 | h0
      · exact h0
      · obtain ⟨_, h, _⟩ := hr.at_ h0; cases h
    subst hn0
    have hx : xs = [] := List.eq_nil_of_length_eq_zero (by simpa using hr.len)
    subst hx
    refine FW_seq ?_
    refine FW_region ?_
    refine FL_assign (h := ?_)
    refine FL_nil (Qseq_normal ?_)
    refine FW_ret (Qseq_ret (Qfn_ret (hR := ?_)))
    exact ⟨_, rfl, trivial, (H.nilRow _ _).turn⟩ --done
  · skip
    refine FW_skip (Qseq_normal ?_)
    refine FW_seq ?_
    refine FW_region ?_
    refine FL_buildSlice H Elems.nil rfl rfl rfl (fun b6 w7 H7 k6 => ?_)
    have hr2 := hr.keep k6
    have H2 := Sep.asRow H7 At0 (s := 129) (n := 0) rfl (by decide)
    refine FL_move (h := ?_)
    refine FL_append H2 (hx := by exact rfl) (hy := by exact rfl) (hat := At0) hr2 h1 (h63 := by unfold maxLen; omega) (hbytes := by omega) (h := fun v9 w10 H10 => ?_)
    refine FL_assign (h := ?_)
    refine FL_nil (Qseq_normal ?_)
    refine FW_ret (Qfn_ret (hR := ?_))
    rw [Nat.zero_add] at H10
    exact ⟨_, rfl, trivial, H10.turn⟩
theorem cloneMap_ok {b : Nat} {g : Int → Option Value} {F : Nat → Prop} (h : (mapI b g).ok F w) : Rets Try.prog 67 [.map (some b)] w fun v w' => ∃ b', v = .map (some b') ∧ True ∧ Turn noB (mapI b' g) w w' := by
  obtain ⟨hF, es, c, hb, hk, hf⟩ := mapI_ok.1 h
  have H := Sep.start0 w
  refine rets1 Try.func67 rfl rfl rfl rfl ?_
  refine FW_seq ?_
  refine FW_region ?_
  refine FL_assign (h := ?_)
  refine FL_nil (Qseq_normal ?_)
  refine FW_seq ?_
  refine FW_seq ?_
  refine FW_region ?_
  refine FL_move (h := ?_)
  refine FL_val (Gives.eqlNilM rfl rfl) rfl ?_
  refine FL_nil (Qseq_normal ?_)
  first | refine FW_condP rfl (fun hc4 => ?_) (fun hc4 => ?_) | refine FW_cond rfl (fun hc4 => ?_) (fun hc4 => ?_)
  · skip
    cases hc4 --done
  · skip
    refine FW_skip (Qseq_normal ?_)
    refine FW_seq ?_
    refine FW_region ?_
    refine FL_move (h := ?_)
    refine FL_val (Gives.makeIfaceM rfl) rfl ?_
    refine FL_cloneB H rfl hb hk hf rfl (fun b8 w9 H9 => ?_)
    refine FL_val (Gives.assertM rfl) rfl ?_
    refine FL_assign (h := ?_)
    refine FL_nil (Qseq_normal ?_)
    refine FW_ret (Qfn_ret (hR := ?_))
    exact ⟨_, rfl, trivial, H9.turn⟩
end
/-- The first place of a number in a list. -/
def idxOf (l : List Int) (k : Int) : Int := if l.contains k then (l.idxOf k : Int) else -1
theorem idxOf_some {l : List Int} {k : Int} {x : Nat} (hx : x < l.length) (hk : k = l[x]) (hno : ∀ j, j < x → l[j]? ≠ some k) : idxOf l k = x := by
  have hm : k ∈ l := by rw [hk]; exact List.getElem_mem hx
  have hl := List.idxOf_lt_length_iff.2 hm
  have hg : l[l.idxOf k]'hl = k := List.getElem_idxOf hl
  have h1 : ¬ l.idxOf k < x := fun h => hno _ h (by rw [List.getElem?_eq_getElem hl, hg])
  have h2 : ¬ x < l.idxOf k := fun h => by
    have := List.not_of_lt_findIdx (p := fun a => a == k) (xs := l) (i := x) (by simpa [List.idxOf] using h)
    simp [hk] at this
  unfold idxOf
  rw [if_pos (by simpa using hm)]
  omega
theorem idxOf_none {l : List Int} {k : Int} (hno : ∀ j, j < l.length → l[j]? ≠ some k) : idxOf l k = -1 := by
  unfold idxOf
  rw [if_neg]
  intro h
  obtain ⟨i, hi, he⟩ := List.getElem_of_mem (List.contains_iff_mem.1 h)
  exact hno i hi (by rw [List.getElem?_eq_getElem hi, he])
theorem idxOf_nonneg {l : List Int} {k : Int} : (0 ≤ idxOf l k) ↔ l.contains k = true := by
  unfold idxOf
  split <;> simp_all
section
variable {w : World}
theorem index_ok {A : Option Addr} {c : Nat} {l : List Int} (hr : RowAt w A l.length 1 (l.map I)) (hl : (l.length : Int) ≤ 9223372036854775806) (k : Int) : Rets Try.prog 90 [.slice A l.length c, I k] w fun v w' => v = I (idxOf l k) ∧ w = w' := by
  refine rets2 Try.func90 rfl rfl rfl rfl ?_
  refine FW_seq ?_
  refine FW_region ?_
  refine FL_assign (h := ?_)
  refine FL_nil (Qseq_normal ?_)
  refine FW_seq ?_
  refine FW_seq ?_
  refine FW_region ?_
  refine FL_move (h := ?_)
  refine FL_val (Gives.lenSlice rfl) rfl ?_
  refine FL_move (h := ?_)
  refine FL_nil (Qseq_normal ?_)
  refine FW_block ?_
  refine FW_loop' (fun i : Nat => [(0, .slice A l.length c), (1, I k), (7, I l.length), (8, I i)]) (fun i w' => w = w' ∧ i ≤ l.length ∧ ∀ j, j < i → l[j]? ≠ some k) (fun i _ => l.length - i) 0 ⟨rfl, rfl, rfl, rfl, trivial⟩ ⟨rfl, Nat.zero_le _, fun j hj => absurd hj (Nat.not_lt_zero j)⟩ (fun x τ w1 hI => ?_)
  obtain ⟨rfl, hx, hno⟩ := hI
  try simp only [upds, like, upd_ds, und_ds]
  refine FW_seq ?_
  refine FW_region ?_
  refine FL_val (Gives.lss rfl rfl) rfl ?_
  refine FL_nil (Qseq_normal ?_)
  refine FW_seq ?_
  first | refine FW_condP rfl (fun hc7 => ?_) (fun hc7 => ?_) | refine FW_cond rfl (fun hc7 => ?_) (fun hc7 => ?_)
  · skip
    have hlt : x < l.length := by omega
    obtain ⟨ad, hA, hcell⟩ := hr.at_ (by omega)
    subst hA
    refine FW_skip (Qseq_normal ?_)
    refine FW_seq ?_
    refine FW_block ?_
    refine FW_seq ?_
    refine FW_region ?_
    refine FL_move (h := ?_)
    refine FL_assign (h := ?_)
    refine FL_nil (Qseq_normal ?_)
    refine FW_seq ?_
    refine FW_region ?_
    refine FL_move (h := ?_)
    refine FL_move (h := ?_)
    refine FL_move (h := ?_)
    refine FL_val (Gives.idx rfl rfl hlt) rfl ?_
    refine FL_loadC (hcell _ _ (show (l.map I)[x * 1]? = some (I l[x]) by simp [hlt])) (h := ?_)
    refine FL_val (Gives.eql rfl rfl) rfl ?_
    refine FL_nil (Qseq_normal ?_)
    first | refine FW_condP rfl (fun hc17 => ?_) (fun hc17 => ?_) | refine FW_cond rfl (fun hc17 => ?_) (fun hc17 => ?_)
    · skip
      have hkx := hc17
      refine FW_seq ?_
      refine FW_region ?_
      refine FL_move (h := ?_)
      refine FL_assign (h := ?_)
      refine FL_nil (Qseq_normal ?_)
      refine FW_ret (Qblk_ret (Qseq_ret (Qround_ret (Qblk_ret (Qseq_ret (Qfn_ret (hR := ?_)))))))
      exact ⟨by rw [idxOf_some hlt hkx hno]; rfl, rfl⟩
    · skip
      refine FW_skip (Qblk_normal (Qseq_normal ?_))
      refine FW_region ?_
      first | refine FL_val (Gives.addI rfl rfl rfl (by omega)) rfl ?_ | refine FL_val (Gives.add rfl rfl) rfl ?_
      refine FL_move (h := ?_)
      refine FL_nil ?_
      exact Qround_normal (x + 1) ⟨rfl, rfl, rfl, rfl, trivial⟩ ⟨rfl, by omega, fun j hj => by
      rcases Nat.lt_succ_iff_lt_or_eq.1 hj with h | h
      · exact hno j h
      · subst h; simp [hlt]; omega⟩ (by omega)
  · skip
    have hx : x = l.length := by omega
    subst hx
    refine FW_exit (Qseq_exit (Qround_exit (Qblk_exit (Qseq_normal ?_))))
    refine FW_seq ?_
    refine FW_region ?_
    refine FL_assign (h := ?_)
    refine FL_nil (Qseq_normal ?_)
    refine FW_ret (Qfn_ret (hR := ?_))
    exact ⟨by rw [idxOf_none hno]; rfl, rfl⟩
theorem contains_ok {A : Option Addr} {c : Nat} {l : List Int} (hr : RowAt w A l.length 1 (l.map I)) (hl : (l.length : Int) ≤ 9223372036854775806) (k : Int) : Rets Try.prog 89 [.slice A l.length c, I k] w fun v w' => v = .bool (l.contains k) ∧ w = w' := by
  refine rets2 Try.func89 rfl rfl rfl rfl ?_
  refine FW_seq ?_
  refine FW_region ?_
  refine FL_assign (h := ?_)
  refine FL_nil (Qseq_normal ?_)
  refine FW_seq ?_
  refine FW_region ?_
  refine FL_move (h := ?_)
  refine FL_move (h := ?_)
  refine FL_callS (index_ok hr hl k) (h := ?_)
  refine FL_val (Gives.geq rfl rfl) rfl ?_
  refine FL_assign (h := ?_)
  refine FL_nil (Qseq_normal ?_)
  refine FW_ret (Qfn_ret (hR := ?_))
  exact ⟨by show Value.bool (decide _) = _; congr 1; rw [Bool.eq_iff_iff, decide_eq_true_iff]; exact idxOf_nonneg, rfl⟩
end
end Go.Proofs.Yteflbohpabdjkaa
/-
  The disk falls: the range over what stays, walked.
-/
namespace Go.Proofs.Yteflbohpabdjkaa
open Go Go.Mw
set_option maxRecDepth 4000

/-- The open writes whose numbers, from i on, are kept. -/
def keptL (keep : List Int) : Nat → List (Int × List UInt8) → List (Int × List UInt8)
  | _, [] => []
  | i, x :: l => if keep.contains (i : Int) then x :: keptL keep (i + 1) l else keptL keep (i + 1) l
theorem keptL_append (keep : List Int) : ∀ (i : Nat) (a b : List (Int × List UInt8)), keptL keep i (a ++ b) = keptL keep i a ++ keptL keep (i + a.length) b
  | i, [], b => by simp [keptL]
  | i, x :: a, b => by
    have e : i + 1 + a.length = i + (x :: a).length := by simp only [List.length_cons]; omega
    simp only [List.cons_append, keptL, keptL_append keep (i + 1) a b, e]
    split <;> simp
theorem keptBy_eq (keep : List Int) : ∀ (i : Nat) (l : List (Int × List UInt8)) (f : Int → Option (List UInt8)), keptBy keep i l f = DM.keptAll (keptL keep i l) f
  | _, [], _ => rfl
  | i, x :: l, f => by
    simp only [keptBy, keptL]
    split
    · rw [keptBy_eq keep (i + 1) l]; rfl
    · exact keptBy_eq keep (i + 1) l f
theorem keptAll_append : ∀ (a b : List (Int × List UInt8)) (f : Int → Option (List UInt8)), DM.keptAll (a ++ b) f = DM.keptAll b (DM.keptAll a f)
  | [], _, _ => rfl
  | x :: a, b, f => keptAll_append a b (setAt f x.1 x.2)
theorem dmap_set (f : Int → Option (List UInt8)) (k : Int) (b : List UInt8) : (fun j => if j = k then some (blkV b) else dmap f j) = dmap (setAt f k b) := by
  funext j
  unfold dmap setAt
  split <;> simp
def oneOpen (x : Int × List UInt8) : List Value := I x.1 :: x.2.map B
theorem openCells_get (l : List (Int × List UInt8)) (hl : ∀ x ∈ l, x.2.length = 128) (i : Nat) (hi : i < l.length) (j : Nat) (v : Value) (hv : (oneOpen l[i])[j]? = some v) : (openCells l)[i * 129 + j]? = some v := by
  induction l generalizing i with
  | nil => simp at hi
  | cons x l ih =>
    have hx : (oneOpen x).length = 129 := by simp [oneOpen, hl x List.mem_cons_self]
    have e : openCells (x :: l) = oneOpen x ++ openCells l := by simp [openCells, oneOpen]
    rw [e]
    cases i with
    | zero =>
      have hj : j < (oneOpen x).length := (List.getElem?_eq_some_iff.1 hv).1
      rw [Nat.zero_mul, Nat.zero_add, List.getElem?_append_left hj]; exact hv
    | succ i =>
      rw [List.getElem?_append_right (by rw [hx, Nat.add_mul]; omega)]
      have : (i + 1) * 129 + j - (oneOpen x).length = i * 129 + j := by rw [hx, Nat.add_mul]; omega
      rw [this]
      exact ih (fun y hy => hl y (List.mem_cons_of_mem _ hy)) i (by simpa using hi) hv

section
variable {w w₀ : World} {S : Nat → Prop} {rs : List HP}
theorem stay_ok (p : Nat) (v : Value) : Rets Try.prog 85 [.pointer (some ⟨p, 0, none⟩), v] w fun u w' => ∃ x : Nat × Nat, u = .func (.func 88) #[] #[.pointer (some ⟨x.1, 0, none⟩), .pointer (some ⟨x.2, 0, none⟩)] ∧ True ∧ Turn noB (starL [blk x.1 [.pointer (some ⟨p, 0, none⟩)] 25, blk x.2 v.cells.toList 23]) w w' := by
  have H := Sep.start0 w
  refine rets2 Try.func85 rfl rfl rfl rfl ?_
  refine FW_seq ?_
  refine FW_region ?_
  refine FL_box H (h := ?_)
  intro b1 w2 H2 k1
  refine FL_box H2 (cs := v.cells.toList) (hcs := by simp) (h := ?_)
  intro b3 w4 H4 k3
  refine FL_assign (h := ?_)
  refine FL_nil (Qseq_normal ?_)
  refine FW_seq ?_
  refine FW_region ?_
  refine FL_val (Gives.makeFunc rfl rfl) rfl ?_
  refine FL_assign (h := ?_)
  refine FL_nil (Qseq_normal ?_)
  refine FW_ret (Qfn_ret (hR := ?_))
  exact ⟨(_, _), rfl, trivial, (Sep.bundle (rs := []) (Sep.front1 H4)).turn⟩
/-- What the walk of the range holds: the disk, with what has been kept so far, and three variables. -/
def rangeJ (p : Nat) (d : DM) (bk bn : Nat) (vo vk : Value) (b2 b3 b0 : Nat) (ka : Value) (pre : List (Int × List UInt8)) : List HP :=
  [blk b2 [.pointer (some ⟨p, 0, none⟩)] 25, blk b3 [ka] 23, blk b0 [.pointer (some ⟨p, 0, none⟩)] 25, blk p (diskCells d bk bn vo vk) 64, mapI bk (dmap (DM.keptAll pre d.kept)), mapI bn (dmap d.now), rowH 101 129 vo d.opn.length (openCells d.opn), rowH 3 1 vk d.keep.length (d.keep.map I)]
def opV (x : Int × List UInt8) : Value := .agg (oneOpen x).toArray
theorem keptL_take {keep : List Int} {l : List (Int × List UInt8)} {i : Nat} (h : i < l.length) : keptL keep 0 (l.take (i + 1)) = keptL keep 0 (l.take i) ++ if keep.contains (i : Int) then [l[i]] else [] := by
  rw [List.take_succ_eq_append_getElem h, keptL_append]
  congr 1
  simp only [keptL, Nat.zero_add, List.length_take, Nat.min_eq_left (Nat.le_of_lt h)]
theorem keptL_pre {keep : List Int} {l : List (Int × List UInt8)} {i : Nat} (h : i < l.length) (hc : keep.contains (i : Int) = true) : keptL keep 0 (l.take i) ++ [l[i]] <+: keptL keep 0 l := by
  have h1 := keptL_take (keep := keep) h
  rw [if_pos hc] at h1
  rw [← h1]
  have h2 := keptL_append keep 0 (l.take (i + 1)) (l.drop (i + 1))
  rw [List.take_append_drop] at h2
  rw [h2]
  exact List.prefix_append _ _
theorem keptL_mem {keep : List Int} {x : Int × List UInt8} : ∀ {i : Nat} {l : List (Int × List UInt8)}, x ∈ keptL keep i l → x ∈ l
  | _, [], h => h
  | i, y :: l, h => by
    simp only [keptL] at h
    split at h
    · rcases List.mem_cons.1 h with rfl | h
      · exact List.mem_cons_self
      · exact List.mem_cons_of_mem _ (keptL_mem h)
    · exact List.mem_cons_of_mem _ (keptL_mem h)
theorem oneOpen_one (x : Int × List UInt8) : ∀ u ∈ oneOpen x, u.oneCell' = true := by
  intro u hu
  rcases List.mem_cons.1 hu with rfl | h
  · rfl
  · obtain ⟨b, _, rfl⟩ := List.mem_map.1 h; rfl
theorem storeN_all {cs us : List Value} (h : us.length = cs.length) : cs.take 0 ++ us ++ cs.drop (0 + us.length) = us := by
  rw [List.take_zero, List.nil_append, Nat.zero_add, h, List.drop_length, List.append_nil]
theorem stay1_ok {p : Nat} {d : DM} {bk bn : Nat} {vo vk : Value} {b2 b3 b0 : Nat} {A : Option Addr} {c : Nat} {keep : List Int} (hwf : d.wf) (hfit : d.opn.length ≤ 1000000000000) (hkl : keep.length ≤ 1000000000000)
    (hst : ∀ w' l1 l2, Sep w₀ S (l1 ++ rowH 3 1 vk d.keep.length (d.keep.map I) :: l2) w' → RowAt w' A keep.length 1 (keep.map I)) (l D : Nat) (ro : Obj)
    (H : Sep w₀ S (obj l ro :: obj D (.deferred (some [])) :: rangeJ p d bk bn vo vk b2 b3 b0 (.slice A keep.length c) []) w)
    (hy : ∀ (pre : List (Int × List UInt8)) (x : Int × List UInt8) (W : World), pre ++ [x] <+: keptL keep 0 d.opn → Sep w₀ S (obj l ro :: obj D (.deferred (some [])) :: rangeJ p d bk bn vo vk b2 b3 b0 (.slice A keep.length c) pre) W → YieldOk Try.prog l [opV x] W fun W' => Sep w₀ S (obj l ro :: obj D (.deferred (some [])) :: rangeJ p d bk bn vo vk b2 b3 b0 (.slice A keep.length c) (pre ++ [x])) W') :
    Rets Try.prog 88 [.func (.yield l) #[] #[], .pointer (some ⟨b2, 0, none⟩), .pointer (some ⟨b3, 0, none⟩)] w fun _ W' => Sep w₀ S (obj l ro :: obj D (.deferred (some [])) :: rangeJ p d bk bn vo vk b2 b3 b0 (.slice A keep.length c) (keptL keep 0 d.opn)) W' := by
  obtain ⟨Ao, co, hvo, hco, hlo, hno⟩ := H.rowForm (put := _) (At8 (a := obj l ro))
  subst hvo
  refine rets3 Try.func88 rfl rfl rfl rfl ?_
  refine FW_seq ?_
  refine FW_region ?_
  refine FL_load H (h := ?_)
  refine FL_val (Gives.nilCheck rfl) rfl ?_
  first | refine FL_val (Gives.field0 rfl) rfl ?_ | refine FL_val (Gives.field rfl) rfl ?_ | refine FL_val (Gives.fieldA rfl) rfl ?_
  refine FL_load H (h := ?_)
  refine FL_val (Gives.lenSlice rfl) rfl ?_
  refine FL_move (h := ?_)
  refine FL_nil (Qseq_normal ?_)
  refine FW_block ?_
  refine FW_loop' (fun i : Nat => [(0, .func (.yield l) #[] #[]), (2, .pointer (some ⟨b3, 0, none⟩)), (9, .slice Ao d.opn.length co), (10, I d.opn.length), (11, I i)])
    (fun i w' => i ≤ d.opn.length ∧ Sep w₀ S (obj l ro :: obj D (.deferred (some [])) :: rangeJ p d bk bn (.slice Ao d.opn.length co) vk b2 b3 b0 (.slice A keep.length c) (keptL keep 0 (d.opn.take i))) w') (fun i _ => d.opn.length - i) 0 ⟨rfl, rfl, rfl, rfl, rfl, trivial⟩ ⟨Nat.zero_le _, H⟩ (fun x τ w8 hI => ?_)
  obtain ⟨hx, H8⟩ := hI
  try simp only [upds, like, upd_ds, und_ds]
  refine FW_seq ?_
  refine FW_region ?_
  refine FL_val (Gives.lss rfl rfl) rfl ?_
  refine FL_nil (Qseq_normal ?_)
  refine FW_seq ?_
  first | refine FW_condP rfl (fun hc10 => ?_) (fun hc10 => ?_) | refine FW_cond rfl (fun hc10 => ?_) (fun hc10 => ?_)
  · skip
    have hlt : x < d.opn.length := by omega
    have hr := Sep.rowAt H8 At8
    obtain ⟨ad, hA, hcell⟩ := hr.at_ (by omega)
    subst hA
    have hlen : (oneOpen d.opn[x]).length = 129 := by simp [oneOpen, hwf.2.2.2.2 _ (List.getElem_mem hlt)]
    refine FW_skip (Qseq_normal ?_)
    refine FW_seq ?_
    refine FW_block ?_
    refine FW_seq ?_
    refine FW_region ?_
    refine FL_move (h := ?_)
    refine FL_val (Gives.idx rfl rfl hlt) rfl ?_
    refine FL_loadCN (us := oneOpen d.opn[x]) (fun j u hj => by rw [add_add]; exact hcell _ _ (openCells_get d.opn hwf.2.2.2.2 x hlt j u hj)) (hk := hlen) (h := ?_)
    refine FL_alloc H8 (h := ?_)
    intro b15 w16 H16 k15
    refine FL_assign (h := ?_)
    refine FL_storeN (us := oneOpen d.opn[x]) H16 (hk := hlen) (hv := oneOpen_one _) (ho := by rw [hlen]; decide) (hs := storeN_all (by rw [hlen]; rfl)) (h := ?_)
    intro w19 H19
    refine FL_nil (Qseq_normal ?_)
    refine FW_seq ?_
    refine FW_region ?_
    refine FL_load H19 (h := ?_)
    refine FL_move (h := ?_)
    refine FL_callS (contains_ok (hst _ [_, _, _, _, _, _, _, _, _, _] _ H19) (by omega) x) (h := ?_)
    refine FL_move (h := ?_)
    first | refine FL_splitP (t := 19) rfl (fun hs24 => ?_) (fun hs24 => ?_) | refine FL_split (t := 19) rfl (fun hs24 => ?_) (fun hs24 => ?_)
    · skip
      have hcon := hs24
      refine FL_on rfl rfl ?_
      refine FL_move (h := ?_)
      refine FL_on rfl rfl ?_
      refine FL_loadN (cs := oneOpen d.opn[x]) (us := oneOpen d.opn[x]) (o := 0) H19 (hu := by rw [List.drop_zero]; exact List.take_of_length_le (Nat.le_of_eq hlen)) (hk := hlen) (h := ?_)
      refine FL_on rfl rfl ?_
      refine FL_yield rfl (hy _ _ _ (keptL_pre hlt hcon) H19.drop0) rfl rfl (fun w29 H29 => ?_)
      refine FL_on rfl rfl ?_
      first | refine FL_val (Gives.notP rfl) rfl ?_ | refine FL_val (Gives.not rfl) rfl ?_
      refine FL_pickT (h := ?_)
      refine FL_nil (Qseq_normal ?_)
      first | refine FW_condP rfl (fun hc32 => ?_) (fun hc32 => ?_) | refine FW_cond rfl (fun hc32 => ?_) (fun hc32 => ?_)
      · skip
        cases hc32 --done
      · skip
        refine FW_skip (Qblk_normal (Qseq_normal ?_))
        refine FW_region ?_
        first | refine FL_val (Gives.addI rfl rfl rfl (by omega)) rfl ?_ | refine FL_val (Gives.add rfl rfl) rfl ?_
        refine FL_move (h := ?_)
        refine FL_nil ?_
        refine Qround_normal (x + 1) ⟨rfl, rfl, rfl, rfl, rfl, trivial⟩ ⟨by omega, ?_⟩ (by omega)
        rw [keptL_take hlt, hcon]
        first | exact H29 | (simp only [Bool.false_eq_true, if_false, List.append_nil]; exact H29.drop0)
    · skip
      have hcon := hs24
      refine FL_off rfl rfl rfl ?_
      refine FL_off rfl rfl rfl ?_
      refine FL_off rfl rfl rfl ?_
      refine FL_off rfl rfl rfl ?_
      refine FL_pickF (h := ?_)
      refine FL_nil (Qseq_normal ?_)
      refine FW_cond_false rfl ?_
      refine FW_skip (Qblk_normal (Qseq_normal ?_))
      refine FW_region ?_
      first | refine FL_val (Gives.addI rfl rfl rfl (by omega)) rfl ?_ | refine FL_val (Gives.add rfl rfl) rfl ?_
      refine FL_move (h := ?_)
      refine FL_nil ?_
      refine Qround_normal (x + 1) ⟨rfl, rfl, rfl, rfl, rfl, trivial⟩ ⟨by omega, ?_⟩ (by omega)
      rw [keptL_take hlt, hcon]
      first | exact H19 | (simp only [Bool.false_eq_true, if_false, List.append_nil]; exact H19.drop0)
  · skip
    have hx : x = d.opn.length := by omega
    subst hx
    rw [List.take_length] at H8
    refine FW_exit (Qseq_exit (Qround_exit (Qblk_exit (Qfn_normal (hR := ?_)))))
    exact H8
end
end Go.Proofs.Yteflbohpabdjkaa
/-
  The disk falls; a count; a crash.
-/
namespace Go.Proofs.Yteflbohpabdjkaa
open Go Go.Mw
set_option maxRecDepth 4000

section
variable {p : Nat} {d : DM} {F : Nat → Prop} {w w₀ : World} {S : Nat → Prop} {rs : List HP} {put : HP → List HP}
theorem cloneMap_at {b : Nat} {g : Int → Option Value} (H : Sep w₀ S rs w) (hat : At rs (mapI b g) put) : Rets Try.prog 67 [.map (some b)] w fun v w' => ∃ b', v = .map (some b') ∧ True ∧ Turn noB (mapI b' g) w w' := by
  obtain ⟨F, hp, _⟩ := H.focus hat
  exact cloneMap_ok hp
theorem keptBy_wf {keep : List Int} : ∀ {i : Nat} {l : List (Int × List UInt8)} {f : Int → Option (List UInt8)}, (∀ x ∈ l, x.2.length = 128) → (∀ k b, f k = some b → b.length = 128) → ∀ k b, keptBy keep i l f k = some b → b.length = 128
  | _, [], _, _, hf => hf
  | i, x :: l, f, hl, hf => by
    refine keptBy_wf (i := i + 1) (l := l) (fun y hy => hl y (List.mem_cons_of_mem _ hy)) fun k b hb => ?_
    split at hb
    · unfold setAt at hb
      split at hb
      · injection hb with hb; rw [← hb]; exact hl x List.mem_cons_self
      · exact hf k b hb
    · exact hf k b hb
theorem DM.wf.fall (h : d.wf) (keep : List Int) : (d.fall keep).wf :=
  ⟨h.1, h.2.1, keptBy_wf h.2.2.2.2 h.2.2.1, keptBy_wf h.2.2.2.2 h.2.2.1, fun _ hx => by cases hx⟩
theorem fall_ok {x : Nat × Nat × Value × Value} {A : Option Addr} {c : Nat} {keep : List Int} (hwf : d.wf) (hfit : d.opn.length ≤ 1000000000000) (hkl : keep.length ≤ 1000000000000) (h : (starL (diskParts p d x)).ok F w)
    (hst : ∀ w' l1 l2, Sep w F (l1 ++ rowH 3 1 x.2.2.2 d.keep.length (d.keep.map I) :: l2) w' → RowAt w' A keep.length 1 (keep.map I)) :
    Rets Try.prog 63 [.pointer (some ⟨p, 0, none⟩), .slice A keep.length c] w fun v w' => v = .tuple #[] ∧ Turn F (diskH p (d.fall keep)) w w' := by
  obtain ⟨bk, bn, vo, vk⟩ := x
  have H := (Sep.start1 h).parts
  unfold diskParts at H
  refine rets2 Try.func63 rfl rfl rfl rfl ?_
  refine FW_seq ?_
  refine FW_region ?_
  refine FL_box H (h := ?_)
  intro b1 w2 H2 k1
  refine FL_nil (Qseq_normal ?_)
  refine FW_seq ?_
  refine FW_seq ?_
  refine FW_region ?_
  refine FL_load H2 (h := ?_)
  refine FL_move (h := ?_)
  refine FL_callN H2 (stay_ok p (.slice A keep.length c)) rfl rfl (fun y w6 _ H6 hk5 => ?_)
  obtain ⟨b2, b3⟩ := y
  refine FL_nil (Qseq_normal ?_)
  refine FW_block ?_
  have HJ := Sep.parts H6
  refine FW_range (gf := 88) (lb := [.pointer (some ⟨b2, 0, none⟩), .pointer (some ⟨b3, 0, none⟩)]) opV (keptL keep 0 d.opn) (rangeJ p d bk bn vo vk b2 b3 _ (.slice A keep.length c)) HJ rfl rfl ?_ ?_ ?_
  · intro l D ro rb pre x W hpre HW
    have hlen : (oneOpen x).length = 129 := by
      have hm := keptL_mem (hpre.subset (List.mem_append_right pre (List.mem_singleton.2 rfl)))
      simp [oneOpen, hwf.2.2.2.2 _ hm]
    refine FW_region ?_
    refine FL_alloc HW (h := ?_)
    intro b9 w10 H10 k9
    refine FL_storeN (us := oneOpen x) H10 (hk := hlen) (hv := oneOpen_one _) (ho := by rw [hlen]; decide) (hs := storeN_all (by rw [hlen]; rfl)) (h := ?_)
    intro w12 H12
    refine FL_nil (Qassign_normal ?_)
    refine ⟨[blk _ (oneOpen x) 101], Sep.back2 H12, fun WB HB => ?_⟩
    refine FW_block ?_
    refine FW_drawS rfl HB (h := fun hok14 w16 H16 => ?_)
    refine FGload hok14 0 H16 (h := ?_)
    refine FGp hok14 1 rfl rfl (fun _ => (Gives.nilCheck rfl)) (by kernel_rfl) ?_
    first | refine FGp hok14 2 rfl rfl (fun _ => (Gives.field0 rfl)) (by kernel_rfl) ?_ | refine FGp hok14 2 rfl rfl (fun _ => (Gives.field rfl)) (by kernel_rfl) ?_ | refine FGp hok14 2 rfl rfl (fun _ => (Gives.fieldA rfl)) (by kernel_rfl) ?_
    refine FGload hok14 3 H16 (h := ?_)
    first | refine FGp hok14 4 rfl rfl (fun _ => (Gives.field0 rfl)) (by kernel_rfl) ?_ | refine FGp hok14 4 rfl rfl (fun _ => (Gives.field rfl)) (by kernel_rfl) ?_ | refine FGp hok14 4 rfl rfl (fun _ => (Gives.fieldA rfl)) (by kernel_rfl) ?_
    refine FGload hok14 5 H16 (h := ?_)
    first | refine FGp hok14 6 rfl rfl (fun _ => (Gives.field0 rfl)) (by kernel_rfl) ?_ | refine FGp hok14 6 rfl rfl (fun _ => (Gives.field rfl)) (by kernel_rfl) ?_ | refine FGp hok14 6 rfl rfl (fun _ => (Gives.fieldA rfl)) (by kernel_rfl) ?_
    refine FGloadN hok14 7 (cs := oneOpen x) (us := x.2.map B) (o := 1) (k := 128) H16 (hu := by rw [show (oneOpen x).drop 1 = x.2.map B from rfl]; exact List.take_of_length_le (by simp [oneOpen] at hlen ⊢; omega)) (hk := by simp [oneOpen] at hlen ⊢; omega) (h := ?_)
    refine FGmapUpdate hok14 8 [] H16 (h := fun w26 H26 => ⟨Stab_nil, ?_⟩)
    refine FG_end hok14 (by kernel_rfl) ?_
    refine Qblk_normal (Qassign_normal ?_)
    have e : (fun j => if j = x.1 then some (Value.agg (x.2.map B).toArray) else dmap (DM.keptAll pre d.kept) j) = dmap (DM.keptAll (pre ++ [x]) d.kept) := by rw [keptAll_append]; exact dmap_set _ _ _
    rw [e] at H26
    exact (Sep.front2 H26).drop0
  · intro l D ro W HW hy
    exact stay1_ok hwf hfit hkl hst l D ro HW hy
  intro D w29 H29 --on
  refine Qblk_normal (Qseq_normal ?_)
  refine FW_seq ?_
  refine FW_drawS rfl H29 (h := fun hok30 w32 H32 => ?_)
  refine FGload hok30 0 H32 (h := ?_)
  refine FGload hok30 1 H32 (h := ?_)
  refine FGp hok30 2 rfl rfl (fun _ => (Gives.nilCheck rfl)) (by kernel_rfl) ?_
  first | refine FGp hok30 3 rfl rfl (fun _ => (Gives.field0 rfl)) (by kernel_rfl) ?_ | refine FGp hok30 3 rfl rfl (fun _ => (Gives.field rfl)) (by kernel_rfl) ?_ | refine FGp hok30 3 rfl rfl (fun _ => (Gives.fieldA rfl)) (by kernel_rfl) ?_
  refine FGload hok30 4 H32 (h := ?_)
  refine FGcallN hok30 5 [(0, false)] H32 (cloneMap_at H32 At5) (h := fun y w39 _ H39 _ => ⟨Stab_load H39 (h := Stab_nil), ?_⟩)
  refine FGp hok30 6 rfl rfl (fun _ => (Gives.nilCheck rfl)) (by kernel_rfl) ?_
  first | refine FGp hok30 7 rfl rfl (fun _ => (Gives.field0 rfl)) (by kernel_rfl) ?_ | refine FGp hok30 7 rfl rfl (fun _ => (Gives.field rfl)) (by kernel_rfl) ?_ | refine FGp hok30 7 rfl rfl (fun _ => (Gives.fieldA rfl)) (by kernel_rfl) ?_
  refine FGstore hok30 8 [] H39 (h := fun w43 H43 => ⟨Stab_nil, ?_⟩)
  refine FG_end hok30 (by kernel_rfl) ?_
  refine Qseq_normal ?_
  refine FW_drawS rfl H43 (h := fun hok44 w46 H46 => ?_)
  refine FGload hok44 0 H46 (h := ?_)
  refine FGload hok44 1 H46 (h := ?_)
  refine FGload hok44 2 H46 (h := ?_)
  refine FGload hok44 3 H46 (h := ?_)
  refine FGp hok44 4 rfl rfl (fun _ => (Gives.nilCheck rfl)) (by kernel_rfl) ?_
  first | refine FGp hok44 5 rfl rfl (fun _ => (Gives.field0 rfl)) (by kernel_rfl) ?_ | refine FGp hok44 5 rfl rfl (fun _ => (Gives.field rfl)) (by kernel_rfl) ?_ | refine FGp hok44 5 rfl rfl (fun _ => (Gives.fieldA rfl)) (by kernel_rfl) ?_
  refine FGstore hok44 6 [(3, false), (2, false), (1, false)] H46 (h := fun w54 H54 => ⟨Stab_load H54 (h := Stab_load H54 (h := Stab_load H54 (h := Stab_nil))), ?_⟩)
  refine FGp hok44 7 rfl rfl (fun _ => (Gives.nilCheck rfl)) (by kernel_rfl) ?_
  first | refine FGp hok44 8 rfl rfl (fun _ => (Gives.field0 rfl)) (by kernel_rfl) ?_ | refine FGp hok44 8 rfl rfl (fun _ => (Gives.field rfl)) (by kernel_rfl) ?_ | refine FGp hok44 8 rfl rfl (fun _ => (Gives.fieldA rfl)) (by kernel_rfl) ?_
  refine FGstore hok44 9 [(3, false), (2, false)] H54 (h := fun w58 H58 => ⟨Stab_load H58 (h := Stab_load H58 (h := Stab_nil)), ?_⟩)
  refine FGp hok44 10 rfl rfl (fun _ => (Gives.nilCheck rfl)) (by kernel_rfl) ?_
  first | refine FGp hok44 11 rfl rfl (fun _ => (Gives.field0 rfl)) (by kernel_rfl) ?_ | refine FGp hok44 11 rfl rfl (fun _ => (Gives.field rfl)) (by kernel_rfl) ?_ | refine FGp hok44 11 rfl rfl (fun _ => (Gives.fieldA rfl)) (by kernel_rfl) ?_
  refine FGstore hok44 12 [(3, false)] H58 (h := fun w62 H62 => ⟨Stab_load H62 (h := Stab_nil), ?_⟩)
  refine FGp hok44 13 rfl rfl (fun _ => (Gives.nilCheck rfl)) (by kernel_rfl) ?_
  first | refine FGp hok44 14 rfl rfl (fun _ => (Gives.field0 rfl)) (by kernel_rfl) ?_ | refine FGp hok44 14 rfl rfl (fun _ => (Gives.field rfl)) (by kernel_rfl) ?_ | refine FGp hok44 14 rfl rfl (fun _ => (Gives.fieldA rfl)) (by kernel_rfl) ?_
  refine FGstore hok44 15 [] H62 (h := fun w66 H66 => ⟨Stab_nil, ?_⟩)
  refine FG_end hok44 (by kernel_rfl) ?_
  refine Qfn_normal1 H66 At1 (hR := fun w68 H68 => ?_)
  rw [← keptBy_eq] at H68
  exact ⟨rfl, (Sep.shutDisk (d := d.fall keep) (hwf.fall keep) (((H68.nilRow 3 1).nilRow 101 129).front2.front8.front8)).first.turn⟩
theorem count_ok (hfit : d.opn.length ≤ 1000000000000) (hkl : d.keep.length ≤ 1000000000000) (hops : fits (d.ops + 1)) (h : (diskH p d).ok F w) :
    Rets Try.prog 65 [.pointer (some ⟨p, 0, none⟩)] w fun v w' => v = .bool d.count.1 ∧ Turn F (diskH p d.count.2) w w' := by
  obtain ⟨hwf, bk, bn, vo, vk, H⟩ := Sep.openDisk (Sep.start1 h)
  obtain ⟨Ak, ck, hvk, _, _, _⟩ := H.rowForm At4
  subst hvk
  unfold fits at hops
  refine rets1 Try.func65 rfl rfl rfl rfl ?_
  refine FW_seq ?_
  refine FW_region ?_
  refine FL_assign (h := ?_)
  refine FL_nil (Qseq_normal ?_)
  refine FW_seq ?_
  refine FW_region ?_
  refine FL_move (h := ?_)
  refine FL_val (Gives.nilCheck rfl) rfl ?_
  first | refine FL_val (Gives.field0 rfl) rfl ?_ | refine FL_val (Gives.field rfl) rfl ?_ | refine FL_val (Gives.fieldA rfl) rfl ?_
  refine FL_load H (h := ?_)
  first | refine FL_val (Gives.addI rfl rfl rfl (by omega)) rfl ?_ | refine FL_val (Gives.add rfl rfl) rfl ?_
  refine FL_val (Gives.nilCheck rfl) rfl ?_
  first | refine FL_val (Gives.field0 rfl) rfl ?_ | refine FL_val (Gives.field rfl) rfl ?_ | refine FL_val (Gives.fieldA rfl) rfl ?_
  refine FL_store H (h := ?_)
  intro w10 H10
  refine FL_nil (Qseq_normal ?_)
  refine FW_seq ?_
  refine FW_seq ?_
  refine FW_drawS rfl H10 (h := fun hok11 w13 H13 => ?_)
  refine FGmove hok11 0 (h := ?_)
  refine FGp hok11 1 rfl rfl (fun _ => (Gives.nilCheck rfl)) (by kernel_rfl) ?_
  first | refine FGp hok11 2 rfl rfl (fun _ => (Gives.field0 rfl)) (by kernel_rfl) ?_ | refine FGp hok11 2 rfl rfl (fun _ => (Gives.field rfl)) (by kernel_rfl) ?_ | refine FGp hok11 2 rfl rfl (fun _ => (Gives.fieldA rfl)) (by kernel_rfl) ?_
  refine FGload hok11 3 H13 (h := ?_)
  refine FGmove hok11 4 (h := ?_)
  refine FGp hok11 5 rfl rfl (fun _ => (Gives.nilCheck rfl)) (by kernel_rfl) ?_
  first | refine FGp hok11 6 rfl rfl (fun _ => (Gives.field0 rfl)) (by kernel_rfl) ?_ | refine FGp hok11 6 rfl rfl (fun _ => (Gives.field rfl)) (by kernel_rfl) ?_ | refine FGp hok11 6 rfl rfl (fun _ => (Gives.fieldA rfl)) (by kernel_rfl) ?_
  refine FGload hok11 7 H13 (h := ?_)
  refine FGp hok11 8 rfl rfl (fun _ => (Gives.eql rfl rfl)) (by kernel_rfl) ?_
  refine FG_end hok11 (by kernel_rfl) ?_
  refine Qseq_normal ?_
  first | refine FW_condP rfl (fun hc21 => ?_) (fun hc21 => ?_) | refine FW_cond rfl (fun hc21 => ?_) (fun hc21 => ?_)
  · skip
    have hC := hc21
    refine FW_seq ?_
    refine FW_region ?_
    refine FL_move (h := ?_)
    refine FL_move (h := ?_)
    refine FL_val (Gives.nilCheck rfl) rfl ?_
    first | refine FL_val (Gives.field0 rfl) rfl ?_ | refine FL_val (Gives.field rfl) rfl ?_ | refine FL_val (Gives.fieldA rfl) rfl ?_
    refine FL_load H13 (h := ?_)
    have HB : Sep w F [starL (diskParts p { d with ops := d.ops + 1 } (bk, bn, vo, .slice Ak d.keep.length ck))] w13 := Sep.bundle (l := diskParts p { d with ops := d.ops + 1 } (bk, bn, vo, .slice Ak d.keep.length ck)) H13
    refine FL_call1 HB At0 (fun F' hp _ => fall_ok (d := { d with ops := d.ops + 1 }) (x := (bk, bn, vo, .slice Ak d.keep.length ck)) (keep := d.keep) (A := Ak) (c := ck) hwf hfit hkl hp fun w' l1 l2 Hw => Sep.rowAt Hw ⟨l1, l2, rfl, fun q => rfl⟩) (h := fun w29 H29 => ?_)
    refine FL_nil (Qseq_normal ?_)
    refine FW_seq ?_
    refine FW_region ?_
    refine FL_assign (h := ?_)
    refine FL_nil (Qseq_normal ?_)
    refine FW_ret (Qseq_ret (Qfn_ret (hR := ?_)))
    rw [DM.count, if_pos hC]
    exact ⟨rfl, H29.turn⟩
  · skip
    have hC := hc21
    refine FW_skip (Qseq_normal ?_)
    refine FW_seq ?_
    refine FW_region ?_
    refine FL_assign (h := ?_)
    refine FL_nil (Qseq_normal ?_)
    refine FW_ret (Qfn_ret (hR := ?_))
    rw [DM.count, if_neg hC]
    exact ⟨rfl, (Sep.shutDisk (d := { d with ops := d.ops + 1 }) hwf H13).turn⟩
theorem crash_ok {A : Option Addr} {c : Nat} {keep : List Int} (hfit : d.opn.length ≤ 1000000000000) (hkl : keep.length ≤ 1000000000000) (hr : RowAt w A keep.length 1 (keep.map I)) (hA : Off A keep.length F) (h : (diskH p d).ok F w) :
    Rets Try.prog 20 [.pointer (some ⟨p, 0, none⟩), .slice A keep.length c] w fun v w' => v = .tuple #[] ∧ Turn F (diskH p (d.crash keep)) w w' := by
  obtain ⟨hwf, bk, bn, vo, vk, H⟩ := Sep.openDisk (Sep.start1 h)
  refine rets2 Try.func20 rfl rfl rfl rfl ?_
  refine FW_seq ?_
  refine FW_region ?_
  refine FL_move (h := ?_)
  refine FL_callS (none_ok h) (h := ?_)
  first | refine FL_val (Gives.notP rfl) rfl ?_ | refine FL_val (Gives.not rfl) rfl ?_
  refine FL_move (h := ?_)
  first | refine FL_splitP (t := 7) rfl (fun hs5 => ?_) (fun hs5 => ?_) | refine FL_split (t := 7) rfl (fun hs5 => ?_) (fun hs5 => ?_)
  · skip
    refine FL_on rfl rfl ?_
    refine FL_move (h := ?_)
    refine FL_on rfl rfl ?_
    refine FL_val (Gives.nilCheck rfl) rfl ?_
    refine FL_on rfl rfl ?_
    first | refine FL_val (Gives.field0 rfl) rfl ?_ | refine FL_val (Gives.field rfl) rfl ?_ | refine FL_val (Gives.fieldA rfl) rfl ?_
    refine FL_on rfl rfl ?_
    refine FL_load H (h := ?_)
    refine FL_on rfl rfl ?_
    first | refine FL_val (Gives.notP rfl) rfl ?_ | refine FL_val (Gives.not rfl) rfl ?_
    refine FL_pickT (h := ?_)
    refine FL_nil (Qseq_normal ?_)
    first | refine FW_condP rfl (fun hc12 => ?_) (fun hc12 => ?_) | refine FW_cond rfl (fun hc12 => ?_) (fun hc12 => ?_)
    · skip
      have hC := hc12
      refine FW_region ?_
      refine FL_move (h := ?_)
      refine FL_move (h := ?_)
      have HB : Sep w F [starL (diskParts p d (bk, bn, vo, vk))] w := Sep.bundle (l := diskParts p d (bk, bn, vo, vk)) H
      refine FL_call1 HB At0 (fun F' hp hF' => fall_ok (d := d) (x := (bk, bn, vo, vk)) (keep := keep) (A := A) (c := c) hwf hfit hkl hp fun w' l1 l2 Hw => hr.keepS (HB.kept.trans Hw.kept hF') hA) (h := fun w17 H17 => ?_)
      refine FL_nil (Qfn_normal (hR := ?_))
      unfold DM.crash
      first | exact ⟨rfl, by rw [if_neg (by simpa using hC)]; exact H17.turn⟩ | exact ⟨rfl, by rw [if_pos (by simpa using hC)]; exact Turn.refl h⟩
    · skip
      have hC := hc12
      refine FW_skip (Qfn_normal (hR := ?_))
      unfold DM.crash
      first | exact ⟨rfl, by rw [if_neg (by simpa using hC)]; exact H.turn⟩ | exact ⟨rfl, by rw [if_pos (by simpa using hC)]; exact Turn.refl h⟩
  · skip
    cases hs5 --done
end
end Go.Proofs.Yteflbohpabdjkaa
/-
  The disk's Write and Read, walked.
-/
namespace Go.Proofs.Yteflbohpabdjkaa
open Go Go.Mw
set_option maxRecDepth 4000

section
variable {p : Nat} {d : DM} {F : Nat → Prop} {w w₀ : World} {S : Nat → Prop} {rs : List HP}
theorem byte_one (l : List UInt8) : ∀ u ∈ l.map B, u.oneCell' = true := by
  intro u hu
  obtain ⟨b, _, rfl⟩ := List.mem_map.1 hu; rfl
theorem pad_length {b : List UInt8} (h : b.length ≤ 128) : (pad b).length = 128 := by simp [pad]; omega
theorem setAt_wf {f : Int → Option (List UInt8)} {k : Int} {b : List UInt8} (hb : b.length = 128) (hf : ∀ k b, f k = some b → b.length = 128) : ∀ j x, setAt f k b j = some x → x.length = 128 := by
  intro j x h
  unfold setAt at h
  split at h
  · injection h with h; rw [← h]; exact hb
  · exact hf j x h
theorem DM.wf.put (h : d.wf) {at_ : Int} {b : List UInt8} (hb : b.length ≤ 128) : (d.put at_ b).wf :=
  ⟨h.1, h.2.1, h.2.2.1, setAt_wf (pad_length hb) h.2.2.2.1, fun x hx => by
    rcases List.mem_append.1 hx with hx | hx
    · exact h.2.2.2.2 x hx
    · rw [List.mem_singleton.1 hx]; exact pad_length hb⟩
theorem openCells_snoc (l : List (Int × List UInt8)) (x : Int × List UInt8) : openCells (l ++ [x]) = openCells l ++ oneOpen x := by simp [openCells, oneOpen]
theorem copy_pad (at_ : Int) {b : List UInt8} (hb : b.length ≤ 128) : (I at_ :: List.replicate 128 (Value.int .u8 0)).take 1 ++ (b.map B).take (min b.length 128) ++ (I at_ :: List.replicate 128 (Value.int .u8 0)).drop (1 + min b.length 128) = oneOpen (at_, pad b) := by
  rw [Nat.min_eq_left hb, Nat.add_comm 1, List.drop_succ_cons, List.drop_replicate, List.take_of_length_le (l := b.map B) (by simp)]
  unfold oneOpen pad
  rw [List.map_append, List.map_replicate]
  rfl
theorem dmap_setV (f : Int → Option (List UInt8)) (k : Int) (b : List UInt8) : (fun j => if j = k then some (Value.agg (b.map B).toArray) else dmap f j) = dmap (setAt f k b) := dmap_set f k b
theorem write_ok {at_ : Int} {b : List UInt8} {A : Option Addr} {c : Nat} (hfit : d.opn.length < 1000000000000) (hkl : d.keep.length ≤ 1000000000000) (hops : fits (d.ops + 1)) (hr : RowAt w A b.length 1 (b.map B)) (hA : Off A b.length F) (h : (diskH p d).ok F w) :
    Rets Try.prog 24 [.pointer (some ⟨p, 0, none⟩), I at_, .slice A b.length c] w fun v w' => v = I (d.write at_ b).1 ∧ Turn F (diskH p (d.write at_ b).2) w w' := by
  obtain ⟨hwf, bk, bn, vo, vk, H⟩ := Sep.openDisk (Sep.start1 h)
  refine rets3 Try.func24 rfl rfl rfl rfl ?_
  refine FW_seq ?_
  refine FW_region ?_
  refine FL_assign (h := ?_)
  refine FL_nil (Qseq_normal ?_)
  refine FW_seq ?_
  refine FW_seq ?_
  refine FW_region ?_
  refine FL_move (h := ?_)
  refine FL_move (h := ?_)
  refine FL_callS (look_ok at_ h) (h := ?_)
  refine FL_assign (h := ?_)
  refine FL_nil (Qseq_normal ?_)
  refine FW_seq ?_
  refine FW_region ?_
  refine FL_move (h := ?_)
  refine FL_val (Gives.neq rfl rfl) rfl ?_
  refine FL_nil (Qseq_normal ?_)
  first | refine FW_condP rfl (fun hc8 => ?_) (fun hc8 => ?_) | refine FW_cond rfl (fun hc8 => ?_) (fun hc8 => ?_)
  · skip
    have hL : d.look at_ ≠ 0 := hc8
    have hwr : d.write at_ b = (d.look at_, d) := by unfold DM.write; rw [if_pos hL]
    rw [hwr]
    refine FW_seq ?_
    refine FW_region ?_
    refine FL_move (h := ?_)
    refine FL_assign (h := ?_)
    refine FL_nil (Qseq_normal ?_)
    refine FW_ret (Qseq_ret (Qfn_ret (hR := ?_)))
    exact ⟨rfl, Turn.refl h⟩
  · skip
    have hL : ¬ d.look at_ ≠ 0 := hc8
    refine FW_skip (Qseq_normal ?_)
    refine FW_seq ?_
    refine FW_seq ?_
    refine FW_region ?_
    refine FL_move (h := ?_)
    refine FL_val (Gives.lenSlice rfl) rfl ?_
    refine FL_val (Gives.gtr rfl rfl) rfl ?_
    refine FL_nil (Qseq_normal ?_)
    first | refine FW_condP rfl (fun hc17 => ?_) (fun hc17 => ?_) | refine FW_cond rfl (fun hc17 => ?_) (fun hc17 => ?_)
    · skip
      have hwr : d.write at_ b = (5, d) := by unfold DM.write; rw [if_neg hL, if_pos (by omega)]
      rw [hwr]
      refine FW_seq ?_
      refine FW_region ?_
      refine FL_assign (h := ?_)
      refine FL_nil (Qseq_normal ?_)
      refine FW_ret (Qseq_ret (Qfn_ret (hR := ?_)))
      exact ⟨rfl, Turn.refl h⟩
    · skip
      have hb : b.length ≤ 128 := by omega
      have hwr : d.write at_ b = ((if (d.put at_ b).count.1 then 0 else 290), (d.put at_ b).count.2) := by unfold DM.write; rw [if_neg hL, if_neg (by omega)]
      rw [hwr]
      refine FW_skip (Qseq_normal ?_)
      refine FW_seq ?_
      refine FW_region ?_
      refine FL_move (h := ?_)
      refine FL_val (Gives.build (Fills.one rfl rfl rfl (by decide) rfl Fills.nil)) rfl ?_
      refine FL_alloc H (h := ?_)
      intro b24 w25 H25 k24
      refine FL_storeN (us := I at_ :: List.replicate 128 (Value.int .u8 0)) (cs := [Value.int .i64 0] ++ List.replicate 128 (Value.int .u8 0)) H25 (hk := rfl) (hv := fun u hu => by rcases List.mem_cons.1 hu with rfl | h; rfl; rw [List.eq_of_mem_replicate h]; rfl) (ho := by simp) (hs := storeN_all (by simp)) (h := ?_)
      intro w27 H27
      refine FL_nil (Qseq_normal ?_)
      refine FW_seq ?_
      refine FW_region ?_
      first | refine FL_val (Gives.field0 rfl) rfl ?_ | refine FL_val (Gives.field rfl) rfl ?_ | refine FL_val (Gives.fieldA rfl) rfl ?_
      refine FL_val (Gives.sliceArr rfl) rfl ?_
      refine FL_move (h := ?_)
      refine FL_copy (cs' := oneOpen (at_, pad b)) (o := 1) (dl := 128) (m := b.length) (cs := I at_ :: List.replicate 128 (Value.int .u8 0)) H27 (hr.keepS H27.kept hA) (byte_one b) (by simp; omega) (copy_pad at_ hb) (h := fun w32 H32 => ?_)
      have hlen : (oneOpen (at_, pad b)).length = 129 := by simp [oneOpen, pad_length hb]
      refine FL_nil (Qseq_normal ?_)
      refine FW_seq ?_
      refine FW_drawS rfl H32 (h := fun hok33 w35 H35 => ?_)
      refine FGmove hok33 0 (h := ?_)
      refine FGmove hok33 1 (h := ?_)
      refine FGp hok33 2 rfl rfl (fun _ => (Gives.nilCheck rfl)) (by kernel_rfl) ?_
      first | refine FGp hok33 3 rfl rfl (fun _ => (Gives.field0 rfl)) (by kernel_rfl) ?_ | refine FGp hok33 3 rfl rfl (fun _ => (Gives.field rfl)) (by kernel_rfl) ?_ | refine FGp hok33 3 rfl rfl (fun _ => (Gives.fieldA rfl)) (by kernel_rfl) ?_
      refine FGload hok33 4 H35 (h := ?_)
      refine FGloadN hok33 5 (cs := oneOpen (at_, pad b)) (us := oneOpen (at_, pad b)) (o := 0) (k := 129) H35 (hu := by rw [List.drop_zero]; exact List.take_of_length_le (Nat.le_of_eq hlen)) (hk := hlen) (h := ?_)
      refine FGbuildSlice hok33 6 [(4, false), (3, true), (2, true), (1, true), (0, true)] H35 (Elems.many rfl hlen Elems.nil) (h := fun b40 w41 H41 => ⟨Stab_load H41 (h := Stab_pure (Stab_pure (Stab_pure (Stab_pure (Stab_nil))))), ?_⟩)
      rw [List.append_nil] at H41
      refine FGappend hok33 7 [(0, true)] (t := 62) (e := 101) (v := vo) (k := d.opn.length) (xs := openCells d.opn) H41 (H41.blkRow At0 (m := 1) (s := 129) hlen) (oneOpen_one _) (by unfold maxLen; omega) (by omega) (hat := At5) (h := fun v42 w43 H43 => ⟨Stab_pure (Stab_nil), ?_⟩)
      rw [← openCells_snoc, show d.opn.length + 1 = (d.opn ++ [(at_, pad b)]).length from by simp] at H43
      obtain ⟨Av, cv, hv42, _, _, _⟩ := Sep.rowForm H43 At5
      subst hv42
      refine FGp hok33 8 rfl rfl (fun _ => (Gives.nilCheck rfl)) (by kernel_rfl) ?_
      first | refine FGp hok33 9 rfl rfl (fun _ => (Gives.field0 rfl)) (by kernel_rfl) ?_ | refine FGp hok33 9 rfl rfl (fun _ => (Gives.field rfl)) (by kernel_rfl) ?_ | refine FGp hok33 9 rfl rfl (fun _ => (Gives.fieldA rfl)) (by kernel_rfl) ?_
      refine FGstore hok33 10 [] H43 (h := fun w47 H47 => ⟨Stab_nil, ?_⟩)
      refine FG_end hok33 (by kernel_rfl) ?_
      refine Qseq_normal ?_
      refine FW_seq ?_
      refine FW_drawS rfl H47 (h := fun hok48 w50 H50 => ?_)
      refine FGmove hok48 0 (h := ?_)
      refine FGp hok48 1 rfl rfl (fun _ => (Gives.nilCheck rfl)) (by kernel_rfl) ?_
      first | refine FGp hok48 2 rfl rfl (fun _ => (Gives.field0 rfl)) (by kernel_rfl) ?_ | refine FGp hok48 2 rfl rfl (fun _ => (Gives.field rfl)) (by kernel_rfl) ?_ | refine FGp hok48 2 rfl rfl (fun _ => (Gives.fieldA rfl)) (by kernel_rfl) ?_
      refine FGload hok48 3 H50 (h := ?_)
      refine FGmove hok48 4 (h := ?_)
      first | refine FGp hok48 5 rfl rfl (fun _ => (Gives.field0 rfl)) (by kernel_rfl) ?_ | refine FGp hok48 5 rfl rfl (fun _ => (Gives.field rfl)) (by kernel_rfl) ?_ | refine FGp hok48 5 rfl rfl (fun _ => (Gives.fieldA rfl)) (by kernel_rfl) ?_
      refine FGloadN hok48 6 (cs := oneOpen (at_, pad b)) (us := (pad b).map B) (o := 1) (k := 128) H50 (hu := by rw [show (oneOpen (at_, pad b)).drop 1 = (pad b).map B from rfl]; exact List.take_of_length_le (by simp [pad_length hb])) (hk := by simp [pad_length hb]) (h := ?_)
      refine FGmapUpdate hok48 7 [] H50 (h := fun w57 H57 => ⟨Stab_nil, ?_⟩)
      refine FG_end hok48 (by kernel_rfl) ?_
      refine Qseq_normal ?_
      refine FW_seq ?_
      refine FW_seq ?_
      refine FW_region ?_
      refine FL_move (h := ?_)
      rw [dmap_setV] at H57
      have HD := Sep.shutDisk (d := d.put at_ b) (hwf.put hb) H57.drop0.drop0
      refine FL_call1 HD At0 (fun F' hp _ => count_ok (d := d.put at_ b) (by simp [DM.put]; omega) hkl hops hp) (h := fun w60 H60 => ?_)
      first | refine FL_val (Gives.notP rfl) rfl ?_ | refine FL_val (Gives.not rfl) rfl ?_
      refine FL_nil (Qseq_normal ?_)
      first | refine FW_condP rfl (fun hc62 => ?_) (fun hc62 => ?_) | refine FW_cond rfl (fun hc62 => ?_) (fun hc62 => ?_)
      · skip
        have hC := hc62
        refine FW_seq ?_
        refine FW_region ?_
        refine FL_assign (h := ?_)
        refine FL_nil (Qseq_normal ?_)
        refine FW_ret (Qseq_ret (Qfn_ret (hR := ?_)))
        exact ⟨by rw [if_neg (by simpa using hC)]; rfl, H60.turn⟩
      · skip
        have hC := hc62
        refine FW_skip (Qseq_normal ?_)
        refine FW_seq ?_
        refine FW_region ?_
        refine FL_assign (h := ?_)
        refine FL_nil (Qseq_normal ?_)
        refine FW_ret (Qfn_ret (hR := ?_))
        exact ⟨by rw [if_pos (by simpa using hC)]; rfl, H60.turn⟩
theorem read_ok {at_ : Int} (h : (diskH p d).ok F w) :
    Rets Try.prog 37 [.pointer (some ⟨p, 0, none⟩), I at_] w fun v w' => ∃ s, v = .tuple #[s, I (d.read at_).2] ∧ True ∧ Turn noB (rowH 99 1 s ((d.read at_).1.getD []).length (((d.read at_).1.getD []).map B)) w w' := by
  obtain ⟨hwf, bk, bn, vo, vk, hb, es, c, hm, hkeys, hf⟩ := diskH_now h
  have H := Sep.start0 w
  refine rets2 Try.func37 rfl rfl rfl rfl ?_
  refine FW_seq ?_
  refine FW_region ?_
  refine FL_assign (h := ?_)
  refine FL_assign (h := ?_)
  refine FL_nil (Qseq_normal ?_)
  refine FW_seq ?_
  refine FW_seq ?_
  refine FW_region ?_
  refine FL_move (h := ?_)
  refine FL_move (h := ?_)
  refine FL_callS (look_ok at_ h) (h := ?_)
  refine FL_assign (h := ?_)
  refine FL_nil (Qseq_normal ?_)
  refine FW_seq ?_
  refine FW_region ?_
  refine FL_move (h := ?_)
  refine FL_val (Gives.neq rfl rfl) rfl ?_
  refine FL_nil (Qseq_normal ?_)
  first | refine FW_condP rfl (fun hc9 => ?_) (fun hc9 => ?_) | refine FW_cond rfl (fun hc9 => ?_) (fun hc9 => ?_)
  · skip
    have hL : d.look at_ ≠ 0 := hc9
    have hrd : d.read at_ = (none, d.look at_) := by unfold DM.read; rw [if_pos hL]
    rw [hrd]
    refine FW_seq ?_
    refine FW_region ?_
    refine FL_move (h := ?_)
    refine FL_assign (h := ?_)
    refine FL_assign (h := ?_)
    refine FL_nil (Qseq_normal ?_)
    refine FW_ret (Qseq_ret (Qfn_ret (hR := ?_)))
    exact ⟨_, rfl, trivial, (H.nilRow _ _).turn⟩
  · skip
    have hL : ¬ d.look at_ ≠ 0 := hc9
    have hrd : d.read at_ = (some (d.sec at_), 0) := by unfold DM.read; rw [if_neg hL]
    rw [hrd]
    have hlen := DM.sec_length hwf at_
    have hz : (dmap d.now at_).getD (Value.agg (List.replicate 128 (Value.int .u8 0)).toArray) = Value.agg ((d.sec at_).map B).toArray := by
      unfold dmap DM.sec
      cases hq : d.now at_ with
      | none => rw [Option.map_none, Option.getD_none, Option.getD_none, List.map_replicate]; rfl
      | some b => rfl
    refine FW_skip (Qseq_normal ?_)
    refine FW_seq ?_
    refine FW_region ?_
    refine FL_move (h := ?_)
    refine FL_val (Gives.nilCheck rfl) rfl ?_
    first | refine FL_val (Gives.field0 rfl) rfl ?_ | refine FL_val (Gives.field rfl) rfl ?_ | refine FL_val (Gives.fieldA rfl) rfl ?_
    refine FL_loadB hb (h := ?_)
    refine FL_move (h := ?_)
    refine FL_val (gives_lookupB hm hkeys hf rfl rfl) rfl ?_
    rw [hz]
    refine FL_alloc H (h := ?_)
    intro b22 w23 H23 k22
    refine FL_storeN (us := (d.sec at_).map B) (cs := List.replicate 128 (Value.int .u8 0)) H23 (hk := by simp [hlen]) (hv := byte_one _) (ho := by simp [hlen]) (hs := storeN_all (by simp [hlen])) (h := ?_)
    intro w25 H25
    refine FL_nil (Qseq_normal ?_)
    refine FW_seq ?_
    refine FW_region ?_
    refine FL_val (Gives.sliceArr rfl) rfl ?_
    refine FL_assign (h := ?_)
    refine FL_assign (h := ?_)
    refine FL_nil (Qseq_normal ?_)
    refine FW_ret (Qfn_ret (hR := ?_))
    have H2 := Sep.asRow H25 At0 (s := 1) (n := 128) (by simp [hlen]) (by unfold maxLen; decide)
    refine ⟨_, rfl, trivial, ?_⟩
    simp only [Option.getD_some, hlen]
    exact H2.turn
end
end Go.Proofs.Yteflbohpabdjkaa
/-
  The disk's New, Flush, Fail and Copy, walked.
-/
namespace Go.Proofs.Yteflbohpabdjkaa
open Go Go.Mw
set_option maxRecDepth 4000

def DM.new (n : Int) : DM := { size := n, kept := fun _ => none, now := fun _ => none, opn := [], dead := false, ops := 0, fail := 0, keep := [] }
section
variable {p : Nat} {d : DM} {F : Nat → Prop} {w w₀ : World} {S : Nat → Prop} {rs : List HP}
theorem keptAll_wf : ∀ {l : List (Int × List UInt8)} {f : Int → Option (List UInt8)}, (∀ x ∈ l, x.2.length = 128) → (∀ k b, f k = some b → b.length = 128) → ∀ k b, DM.keptAll l f k = some b → b.length = 128
  | [], _, _, hf => hf
  | x :: l, _, hl, hf => keptAll_wf (l := l) (fun y hy => hl y (List.mem_cons_of_mem _ hy)) (setAt_wf (hl x List.mem_cons_self) hf)
theorem openCells_one (l : List (Int × List UInt8)) : ∀ u ∈ openCells l, u.oneCell' = true := by
  intro u hu
  obtain ⟨x, _, hx⟩ := List.mem_flatMap.1 hu
  exact oneOpen_one x u hx
theorem new_ok (n : Int) (hn : 1 ≤ n ∧ n ≤ 65536) : Rets Try.prog 32 [I n] w fun v w' => ∃ p, v = .tuple #[.pointer (some ⟨p, 0, none⟩), I 0] ∧ True ∧ Turn noB (diskH p (DM.new n)) w w' := by
  have H := Sep.start0 w
  refine rets1 Try.func32 rfl rfl rfl rfl ?_
  refine FW_seq ?_
  refine FW_region ?_
  refine FL_assign (h := ?_)
  refine FL_assign (h := ?_)
  refine FL_nil (Qseq_normal ?_)
  refine FW_seq ?_
  refine FW_seq ?_
  refine FW_region ?_
  refine FL_move (h := ?_)
  refine FL_val (Gives.lss rfl rfl) rfl ?_
  refine FL_move (h := ?_)
  first | refine FL_splitP (t := 6) rfl (fun hs6 => ?_) (fun hs6 => ?_) | refine FL_split (t := 6) rfl (fun hs6 => ?_) (fun hs6 => ?_)
  · skip
    omega --done
  · skip
    refine FL_on rfl rfl ?_
    refine FL_move (h := ?_)
    refine FL_on rfl rfl ?_
    refine FL_val (Gives.gtr rfl rfl) rfl ?_
    refine FL_pickF (h := ?_)
    refine FL_nil (Qseq_normal ?_)
    first | refine FW_condP rfl (fun hc11 => ?_) (fun hc11 => ?_) | refine FW_cond rfl (fun hc11 => ?_) (fun hc11 => ?_)
    · skip
      omega --done
    · skip
      refine FW_skip (Qseq_normal ?_)
      refine FW_seq ?_
      refine FW_region ?_
      refine FL_move (h := ?_)
      refine FL_makeMap H (h := ?_)
      intro b14 w15 H15 k14
      refine FL_makeMap H15 (h := ?_)
      intro b16 w17 H17 k16
      refine FL_val (Gives.build (Fills.one rfl rfl rfl (by simp) rfl (Fills.one rfl rfl rfl (by simp) rfl (Fills.one rfl rfl rfl (by simp) rfl Fills.nil)))) rfl ?_
      refine FL_box H17 (h := ?_)
      intro b19 w20 H20 k19
      refine FL_assign (h := ?_)
      refine FL_assign (h := ?_)
      refine FL_nil (Qseq_normal ?_)
      refine FW_ret (Qfn_ret (hR := ?_))
      have h1 := (H20.front1.mapNew At0).front2.mapNew At0
      have h2 := ((h1.nilRow 3 1).nilRow 101 129).front3.front3.front4
      have hwf : (DM.new n).wf := ⟨hn.1, hn.2, fun _ _ h => (by cases h), fun _ _ h => (by cases h), fun _ h => (by cases h)⟩
      exact ⟨_, rfl, trivial, (Sep.shutDisk (d := DM.new n) hwf h2).turn⟩
theorem flush_ok (hfit : d.opn.length ≤ 1000000000000) (hkl : d.keep.length ≤ 1000000000000) (hops : fits (d.ops + 1)) (h : (diskH p d).ok F w) :
    Rets Try.prog 28 [.pointer (some ⟨p, 0, none⟩)] w fun v w' => v = I d.flush.1 ∧ Turn F (diskH p d.flush.2) w w' := by
  have H := Sep.start1 h
  refine rets1 Try.func28 rfl rfl rfl rfl ?_
  refine FW_seq ?_
  refine FW_region ?_
  refine FL_assign (h := ?_)
  refine FL_nil (Qseq_normal ?_)
  refine FW_seq ?_
  refine FW_seq ?_
  refine FW_region ?_
  refine FL_move (h := ?_)
  refine FL_callS (look_ok 0 h) (h := ?_)
  refine FL_assign (h := ?_)
  refine FL_nil (Qseq_normal ?_)
  refine FW_seq ?_
  refine FW_region ?_
  refine FL_move (h := ?_)
  refine FL_val (Gives.neq rfl rfl) rfl ?_
  refine FL_nil (Qseq_normal ?_)
  first | refine FW_condP rfl (fun hc7 => ?_) (fun hc7 => ?_) | refine FW_cond rfl (fun hc7 => ?_) (fun hc7 => ?_)
  · skip
    have hL : d.look 0 ≠ 0 := hc7
    have hfl : d.flush = (d.look 0, d) := by unfold DM.flush; rw [if_pos hL]
    rw [hfl]
    refine FW_seq ?_
    refine FW_region ?_
    refine FL_move (h := ?_)
    refine FL_assign (h := ?_)
    refine FL_nil (Qseq_normal ?_)
    refine FW_ret (Qseq_ret (Qfn_ret (hR := ?_)))
    exact ⟨rfl, Turn.refl h⟩
  · skip
    have hL : ¬ d.look 0 ≠ 0 := hc7
    refine FW_skip (Qseq_normal ?_)
    refine FW_seq ?_
    refine FW_seq ?_
    refine FW_region ?_
    refine FL_move (h := ?_)
    refine FL_call1 H At0 (fun F' hp _ => count_ok hfit hkl hops hp) (h := fun w15 H15 => ?_)
    first | refine FL_val (Gives.notP rfl) rfl ?_ | refine FL_val (Gives.not rfl) rfl ?_
    refine FL_nil (Qseq_normal ?_)
    first | refine FW_condP rfl (fun hc17 => ?_) (fun hc17 => ?_) | refine FW_cond rfl (fun hc17 => ?_) (fun hc17 => ?_)
    · skip
      have hC : d.count.1 = false := by simpa using hc17
      have hfl : d.flush = (290, d.count.2) := by unfold DM.flush; rw [if_neg hL, if_neg (by rw [hC]; simp)]
      rw [hfl]
      refine FW_seq ?_
      refine FW_region ?_
      refine FL_assign (h := ?_)
      refine FL_nil (Qseq_normal ?_)
      refine FW_ret (Qseq_ret (Qfn_ret (hR := ?_)))
      exact ⟨rfl, H15.turn⟩
    · skip
      have hC : d.count.1 = true := by simpa using hc17
      have hfl : d.flush = (0, { d.count.2 with kept := DM.keptAll d.opn d.kept, opn := [] }) := by unfold DM.flush; rw [if_neg hL, if_pos hC]
      have hcd : d.count.2 = { d with ops := d.ops + 1 } := by
        unfold DM.count at hC ⊢
        split <;> simp_all
      rw [hfl, hcd]
      rw [hcd] at H15
      obtain ⟨hwf, bk, bn, vo, vk, HO⟩ := Sep.openDisk H15
      obtain ⟨Ao, co, hvo, hco, hlo, hno⟩ := Sep.rowForm HO At3
      subst hvo
      refine FW_skip (Qseq_normal ?_)
      refine FW_seq ?_
      refine FW_seq ?_
      refine FW_region ?_
      refine FL_move (h := ?_)
      refine FL_val (Gives.nilCheck rfl) rfl ?_
      first | refine FL_val (Gives.field0 rfl) rfl ?_ | refine FL_val (Gives.field rfl) rfl ?_ | refine FL_val (Gives.fieldA rfl) rfl ?_
      refine FL_load HO (h := ?_)
      refine FL_val (Gives.lenSlice rfl) rfl ?_
      refine FL_move (h := ?_)
      refine FL_nil (Qseq_normal ?_)
      refine FW_block ?_
      refine FW_loop' (fun i : Nat => [(0, .pointer (some ⟨p, 0, none⟩)), (17, .slice Ao d.opn.length co), (18, I d.opn.length), (19, I i)])
        (fun i w' => i ≤ d.opn.length ∧ Sep w F (blk p (diskCells { d with ops := d.ops + 1 } bk bn (.slice Ao d.opn.length co) vk) 64 :: mapI bk (dmap (DM.keptAll (d.opn.take i) d.kept)) :: mapI bn (dmap d.now) :: rowH 101 129 (.slice Ao d.opn.length co) d.opn.length (openCells d.opn) :: rowH 3 1 vk d.keep.length (d.keep.map I) :: []) w') (fun i _ => d.opn.length - i) 0 ⟨rfl, rfl, rfl, rfl, trivial⟩ ⟨Nat.zero_le _, HO⟩ (fun x τ w29 hI => ?_)
      obtain ⟨hx, H29⟩ := hI
      try simp only [upds, like, upd_ds, und_ds]
      refine FW_seq ?_
      refine FW_region ?_
      refine FL_val (Gives.lss rfl rfl) rfl ?_
      refine FL_nil (Qseq_normal ?_)
      refine FW_seq ?_
      first | refine FW_condP rfl (fun hc31 => ?_) (fun hc31 => ?_) | refine FW_cond rfl (fun hc31 => ?_) (fun hc31 => ?_)
      · skip
        have hlt : x < d.opn.length := by omega
        have hr := Sep.rowAt H29 At3
        obtain ⟨ad, hA, hcell⟩ := hr.at_ (by omega)
        subst hA
        have hlen : (oneOpen d.opn[x]).length = 129 := by simp [oneOpen, hwf.2.2.2.2 _ (List.getElem_mem hlt)]
        refine FW_skip (Qseq_normal ?_)
        refine FW_seq ?_
        refine FW_block ?_
        refine FW_seq ?_
        refine FW_region ?_
        refine FL_val (Gives.idx rfl rfl hlt) rfl ?_
        refine FL_loadCN (us := oneOpen d.opn[x]) (fun j u hj => by rw [add_add]; exact hcell _ _ (openCells_get d.opn hwf.2.2.2.2 x hlt j u hj)) (hk := hlen) (h := ?_)
        refine FL_alloc H29 (h := ?_)
        intro b35 w36 H36 k35
        refine FL_storeN (us := oneOpen d.opn[x]) H36 (hk := hlen) (hv := oneOpen_one _) (ho := by rw [hlen]; decide) (hs := storeN_all (by rw [hlen]; rfl)) (h := ?_)
        intro w38 H38
        refine FL_nil (Qseq_normal ?_)
        refine FW_drawS rfl H38 (h := fun hok39 w41 H41 => ?_)
        refine FGmove hok39 0 (h := ?_)
        refine FGp hok39 1 rfl rfl (fun _ => (Gives.nilCheck rfl)) (by kernel_rfl) ?_
        first | refine FGp hok39 2 rfl rfl (fun _ => (Gives.field0 rfl)) (by kernel_rfl) ?_ | refine FGp hok39 2 rfl rfl (fun _ => (Gives.field rfl)) (by kernel_rfl) ?_ | refine FGp hok39 2 rfl rfl (fun _ => (Gives.fieldA rfl)) (by kernel_rfl) ?_
        refine FGload hok39 3 H41 (h := ?_)
        first | refine FGp hok39 4 rfl rfl (fun _ => (Gives.field0 rfl)) (by kernel_rfl) ?_ | refine FGp hok39 4 rfl rfl (fun _ => (Gives.field rfl)) (by kernel_rfl) ?_ | refine FGp hok39 4 rfl rfl (fun _ => (Gives.fieldA rfl)) (by kernel_rfl) ?_
        refine FGload hok39 5 H41 (h := ?_)
        first | refine FGp hok39 6 rfl rfl (fun _ => (Gives.field0 rfl)) (by kernel_rfl) ?_ | refine FGp hok39 6 rfl rfl (fun _ => (Gives.field rfl)) (by kernel_rfl) ?_ | refine FGp hok39 6 rfl rfl (fun _ => (Gives.fieldA rfl)) (by kernel_rfl) ?_
        refine FGloadN hok39 7 (cs := oneOpen d.opn[x]) (us := d.opn[x].2.map B) (o := 1) (k := 128) H41 (hu := by rw [show (oneOpen d.opn[x]).drop 1 = d.opn[x].2.map B from rfl]; exact List.take_of_length_le (by simp [oneOpen] at hlen ⊢; omega)) (hk := by simp [oneOpen] at hlen ⊢; omega) (h := ?_)
        refine FGmapUpdate hok39 8 [] H41 (h := fun w50 H50 => ⟨Stab_nil, ?_⟩)
        refine FG_end hok39 (by kernel_rfl) ?_
        refine Qblk_normal (Qseq_normal ?_)
        refine FW_region ?_
        first | refine FL_val (Gives.addI rfl rfl rfl (by omega)) rfl ?_ | refine FL_val (Gives.add rfl rfl) rfl ?_
        refine FL_move (h := ?_)
        refine FL_nil ?_
        refine Qround_normal (x + 1) ⟨rfl, rfl, rfl, rfl, trivial⟩ ⟨by omega, ?_⟩ (by omega)
        rw [List.take_succ_eq_append_getElem hlt, keptAll_append]
        have e : (fun j => if j = d.opn[x].1 then some (Value.agg (d.opn[x].2.map B).toArray) else dmap (DM.keptAll (d.opn.take x) d.kept) j) = dmap (DM.keptAll [d.opn[x]] (DM.keptAll (d.opn.take x) d.kept)) := dmap_set _ _ _
        rw [e] at H50
        exact H50.drop0
      · skip
        have hx : x = d.opn.length := by omega
        subst hx
        rw [List.take_length] at H29
        refine FW_exit (Qseq_exit (Qround_exit (Qblk_exit (Qseq_normal ?_))))
        refine FW_seq ?_
        refine FW_region ?_
        refine FL_move (h := ?_)
        refine FL_val (Gives.nilCheck rfl) rfl ?_
        first | refine FL_val (Gives.field0 rfl) rfl ?_ | refine FL_val (Gives.field rfl) rfl ?_ | refine FL_val (Gives.fieldA rfl) rfl ?_
        refine FL_store H29 (h := ?_)
        intro w59 H59
        refine FL_nil (Qseq_normal ?_)
        refine FW_seq ?_
        refine FW_region ?_
        refine FL_assign (h := ?_)
        refine FL_nil (Qseq_normal ?_)
        refine FW_ret (Qfn_ret (hR := ?_))
        have h1 := (H59.nilRow 101 129).front3.front3.front3.front4.drop0
        have hwf' : DM.wf { d with ops := d.ops + 1, kept := DM.keptAll d.opn d.kept, opn := [] } := ⟨hwf.1, hwf.2.1, keptAll_wf hwf.2.2.2.2 hwf.2.2.1, hwf.2.2.2.1, fun _ h => by cases h⟩
        exact ⟨rfl, (Sep.shutDisk (d := { d with ops := d.ops + 1, kept := DM.keptAll d.opn d.kept, opn := [] }) hwf' h1).turn⟩
theorem fail_ok {ops : Int} {keep : List Int} {A : Option Addr} {c : Nat} (hops : 0 ≤ d.ops ∧ d.ops ≤ 4611686018427387904) (hkl : keep.length ≤ 1000000000000) (hr : RowAt w A keep.length 1 (keep.map I)) (hA : Off A keep.length F) (h : (diskH p d).ok F w) :
    Rets Try.prog 27 [.pointer (some ⟨p, 0, none⟩), I ops, .slice A keep.length c] w fun v w' => v = .tuple #[] ∧ Turn F (diskH p (d.failAt ops keep)) w w' := by
  obtain ⟨hwf, bk, bn, vo, vk, H⟩ := Sep.openDisk (Sep.start1 h)
  refine rets3 Try.func27 rfl rfl rfl rfl ?_
  refine FW_seq ?_
  refine FW_seq ?_
  refine FW_region ?_
  refine FL_move (h := ?_)
  refine FL_callS (none_ok h) (h := ?_)
  refine FL_move (h := ?_)
  first | refine FL_splitP (t := 8) rfl (fun hs4 => ?_) (fun hs4 => ?_) | refine FL_split (t := 8) rfl (fun hs4 => ?_) (fun hs4 => ?_)
  · skip
    cases hs4 --done
  · skip
    refine FL_on rfl rfl ?_
    refine FL_move (h := ?_)
    refine FL_on rfl rfl ?_
    refine FL_val (Gives.nilCheck rfl) rfl ?_
    refine FL_on rfl rfl ?_
    first | refine FL_val (Gives.field0 rfl) rfl ?_ | refine FL_val (Gives.field rfl) rfl ?_ | refine FL_val (Gives.fieldA rfl) rfl ?_
    refine FL_on rfl rfl ?_
    refine FL_load H (h := ?_)
    refine FL_pickF (h := ?_)
    refine FL_nil (Qseq_normal ?_)
    first | refine FW_condP rfl (fun hc11 => ?_) (fun hc11 => ?_) | refine FW_cond rfl (fun hc11 => ?_) (fun hc11 => ?_)
    · skip
      have hD : d.dead = true := hc11
      refine FW_ret (Qseq_ret (Qfn_ret (hR := ?_)))
      exact ⟨rfl, by unfold DM.failAt; rw [if_pos hD]; exact Turn.refl h⟩
    · skip
      have hD : ¬ d.dead = true := by simpa using hc11
      unfold DM.failAt
      rw [if_neg hD]
      refine FW_skip (Qseq_normal ?_)
      refine FW_seq ?_
      refine FW_region ?_
      refine FL_move (h := ?_)
      refine FL_move (h := ?_)
      refine FL_val (Gives.nilCheck rfl) rfl ?_
      first | refine FL_val (Gives.field0 rfl) rfl ?_ | refine FL_val (Gives.field rfl) rfl ?_ | refine FL_val (Gives.fieldA rfl) rfl ?_
      refine FL_store H (h := ?_)
      intro w20 H20
      refine FL_val (Gives.nilCheck rfl) rfl ?_
      first | refine FL_val (Gives.field0 rfl) rfl ?_ | refine FL_val (Gives.field rfl) rfl ?_ | refine FL_val (Gives.fieldA rfl) rfl ?_
      refine FL_store H20 (h := ?_)
      intro w24 H24
      refine FL_nil (Qseq_normal ?_)
      refine FW_seq ?_
      refine FW_region ?_
      refine FL_move (h := ?_)
      refine FL_val (Gives.gtr rfl rfl) rfl ?_
      refine FL_move (h := ?_)
      first | refine FL_splitP (t := 22) rfl (fun hs28 => ?_) (fun hs28 => ?_) | refine FL_split (t := 22) rfl (fun hs28 => ?_) (fun hs28 => ?_)
      · skip
        have h0 := hs28
        refine FL_on rfl rfl ?_
        refine FL_move (h := ?_)
        refine FL_on rfl rfl ?_
        refine FL_move (h := ?_)
        refine FL_on rfl rfl ?_
        refine FL_val (Gives.nilCheck rfl) rfl ?_
        refine FL_on rfl rfl ?_
        first | refine FL_val (Gives.field0 rfl) rfl ?_ | refine FL_val (Gives.field rfl) rfl ?_ | refine FL_val (Gives.fieldA rfl) rfl ?_
        refine FL_on rfl rfl ?_
        refine FL_load H24 (h := ?_)
        refine FL_on rfl rfl ?_
        first | refine FL_val (Gives.subI rfl rfl rfl (by omega)) rfl ?_ | refine FL_val (Gives.sub rfl rfl) rfl ?_
        refine FL_on rfl rfl ?_
        refine FL_val (Gives.leq rfl rfl) rfl ?_
        refine FL_pickT (h := ?_)
        refine FL_nil (Qseq_normal ?_)
        first | refine FW_condP rfl (fun hc38 => ?_) (fun hc38 => ?_) | refine FW_cond rfl (fun hc38 => ?_) (fun hc38 => ?_)
        · skip
          have hC := hc38
          refine FW_drawS rfl H24 (h := fun hok40 w42 H42 => ?_)
          refine FGmove hok40 0 (h := ?_)
          refine FGmove hok40 1 (h := ?_)
          refine FGmove hok40 2 (h := ?_)
          refine FGp hok40 3 rfl rfl (fun _ => (Gives.nilCheck rfl)) (by kernel_rfl) ?_
          first | refine FGp hok40 4 rfl rfl (fun _ => (Gives.field0 rfl)) (by kernel_rfl) ?_ | refine FGp hok40 4 rfl rfl (fun _ => (Gives.field rfl)) (by kernel_rfl) ?_ | refine FGp hok40 4 rfl rfl (fun _ => (Gives.fieldA rfl)) (by kernel_rfl) ?_
          refine FGload hok40 5 H42 (h := ?_)
          refine FGmove hok40 6 (h := ?_)
          first | refine FGp hok40 7 rfl rfl (fun _ => (Gives.addI rfl rfl rfl (by omega))) (by kernel_rfl) ?_ | refine FGp hok40 7 rfl rfl (fun _ => (Gives.add rfl rfl)) (by kernel_rfl) ?_
          refine FGmove hok40 8 (h := ?_)
          refine FGcallN hok40 9 [(7, true), (6, true), (5, false), (4, true), (3, true), (2, true), (1, true), (0, true)] H42 (cloneInts_ok (hr.keepS H42.kept hA) (by intro u hu; obtain ⟨k, _, rfl⟩ := List.mem_map.1 hu; rfl) hkl) (h := fun y w48 _ H48 _ => ⟨Stab_pure (Stab_pure (Stab_load H48 (h := Stab_pure (Stab_pure (Stab_pure (Stab_pure (Stab_pure (Stab_nil)))))))), ?_⟩)
          obtain ⟨Ay, cy, hy, _⟩ := Sep.rowForm H48 At0
          subst hy
          refine FGp hok40 10 rfl rfl (fun _ => (Gives.nilCheck rfl)) (by kernel_rfl) ?_
          first | refine FGp hok40 11 rfl rfl (fun _ => (Gives.field0 rfl)) (by kernel_rfl) ?_ | refine FGp hok40 11 rfl rfl (fun _ => (Gives.field rfl)) (by kernel_rfl) ?_ | refine FGp hok40 11 rfl rfl (fun _ => (Gives.fieldA rfl)) (by kernel_rfl) ?_
          refine FGstore hok40 12 [(1, true)] H48 (h := fun w52 H52 => ⟨Stab_pure (Stab_nil), ?_⟩)
          refine FGp hok40 13 rfl rfl (fun _ => (Gives.nilCheck rfl)) (by kernel_rfl) ?_
          first | refine FGp hok40 14 rfl rfl (fun _ => (Gives.field0 rfl)) (by kernel_rfl) ?_ | refine FGp hok40 14 rfl rfl (fun _ => (Gives.field rfl)) (by kernel_rfl) ?_ | refine FGp hok40 14 rfl rfl (fun _ => (Gives.fieldA rfl)) (by kernel_rfl) ?_
          refine FGstore hok40 15 [] H52 (h := fun w56 H56 => ⟨Stab_nil, ?_⟩)
          refine FG_end hok40 (by kernel_rfl) ?_
          refine Qfn_normal (hR := ?_)
          first
            | (rw [if_pos ⟨by omega, by omega⟩]; exact ⟨rfl, (Sep.shutDisk (d := { d with fail := d.ops + ops, keep := keep }) hwf H56.front5.drop0.front4.front4.front4.front4).turn⟩)
            | (rw [if_neg (by omega)]; exact ⟨rfl, (Sep.shutDisk (d := { d with fail := 0, keep := [] }) hwf (H56.nilRow 3 1).front5.drop0.front4.front4.front4.front4).turn⟩)
        · skip
          have hC := hc38
          refine FW_skip (Qfn_normal (hR := ?_))
          first
            | (rw [if_pos ⟨by omega, by omega⟩]; exact ⟨rfl, (Sep.shutDisk (d := { d with fail := d.ops + ops, keep := keep }) hwf H24.front5.drop0.front4.front4.front4.front4).turn⟩)
            | (rw [if_neg (by omega)]; exact ⟨rfl, (Sep.shutDisk (d := { d with fail := 0, keep := [] }) hwf (H24.nilRow 3 1).front5.drop0.front4.front4.front4.front4).turn⟩)
      · skip
        have h0 := hs28
        refine FL_off rfl rfl rfl ?_
        refine FL_off rfl rfl rfl ?_
        refine FL_off rfl rfl rfl ?_
        refine FL_off rfl rfl rfl ?_
        refine FL_off rfl rfl rfl ?_
        refine FL_off rfl rfl rfl ?_
        refine FL_off rfl rfl rfl ?_
        refine FL_pickF (h := ?_)
        refine FL_nil (Qseq_normal ?_)
        refine FW_cond_false rfl ?_
        refine FW_skip (Qfn_normal (hR := ?_))
        first
          | (rw [if_pos ⟨by omega, by omega⟩]; exact ⟨rfl, (Sep.shutDisk (d := { d with fail := d.ops + ops, keep := keep }) hwf H24.front5.drop0.front4.front4.front4.front4).turn⟩)
          | (rw [if_neg (by omega)]; exact ⟨rfl, (Sep.shutDisk (d := { d with fail := 0, keep := [] }) hwf (H24.nilRow 3 1).front5.drop0.front4.front4.front4.front4).turn⟩)
theorem copy_ok (hfit : d.opn.length ≤ 1000000000000) (hkl : d.keep.length ≤ 1000000000000) (h : (diskH p d).ok F w) :
    Rets Try.prog 31 [.pointer (some ⟨p, 0, none⟩)] w fun v w' => ∃ q, v = .pointer (some ⟨q, 0, none⟩) ∧ True ∧ Turn F (star (diskH p d) (diskH q d)) w w' := by
  obtain ⟨hwf, bk, bn, vo, vk, H⟩ := Sep.openDisk (Sep.start1 h)
  obtain ⟨Ao, co, hvo, _⟩ := H.rowForm At3
  subst hvo
  obtain ⟨Ak, ck, hvk, _⟩ := H.rowForm At4
  subst hvk
  refine rets1 Try.func31 rfl rfl rfl rfl ?_
  refine FW_seq ?_
  refine FW_region ?_
  refine FL_assign (h := ?_)
  refine FL_nil (Qseq_normal ?_)
  refine FW_seq ?_
  refine FW_seq ?_
  refine FW_region ?_
  refine FL_move (h := ?_)
  refine FL_callS (none_ok h) (h := ?_)
  refine FL_nil (Qseq_normal ?_)
  first | refine FW_condP rfl (fun hc4 => ?_) (fun hc4 => ?_) | refine FW_cond rfl (fun hc4 => ?_) (fun hc4 => ?_)
  · skip
    cases hc4 --done
  · skip
    refine FW_skip (Qseq_normal ?_)
    refine FW_seq ?_
    refine FW_region ?_
    refine FL_move (h := ?_)
    refine FL_val (Gives.nilCheck rfl) rfl ?_
    refine FL_loadN H (us := diskCells d bk bn (.slice Ao d.opn.length co) (.slice Ak d.keep.length ck)) (hu := rfl) (hk := rfl) (h := ?_)
    refine FL_alloc H (h := ?_)
    intro b9 w10 H10 k9
    refine FL_storeN (us := diskCells d bk bn (.slice Ao d.opn.length co) (.slice Ak d.keep.length ck)) (cs := [Value.int .i64 0, Value.map none, Value.map none, Value.slice none 0 0, Value.bool false, Value.int .i64 0, Value.int .i64 0, Value.slice none 0 0]) H10 (hk := rfl) (hv := by intro u hu; simp [diskCells] at hu; rcases hu with rfl | rfl | rfl | rfl | rfl | rfl | rfl | rfl <;> rfl) (ho := Nat.le_refl 8) (hs := storeN_all rfl) (h := ?_)
    intro w12 H12
    refine FL_nil (Qseq_normal ?_)
    refine FW_seq ?_
    refine FW_drawS rfl H12 (h := fun hok13 w15 H15 => ?_)
    refine FGmove hok13 0 (h := ?_)
    refine FGp hok13 1 rfl rfl (fun _ => (Gives.nilCheck rfl)) (by kernel_rfl) ?_
    first | refine FGp hok13 2 rfl rfl (fun _ => (Gives.field0 rfl)) (by kernel_rfl) ?_ | refine FGp hok13 2 rfl rfl (fun _ => (Gives.field rfl)) (by kernel_rfl) ?_ | refine FGp hok13 2 rfl rfl (fun _ => (Gives.fieldA rfl)) (by kernel_rfl) ?_
    refine FGload hok13 3 H15 (h := ?_)
    refine FGmove hok13 5 (h := ?_)
    refine FGp hok13 6 rfl rfl (fun _ => (Gives.nilCheck rfl)) (by kernel_rfl) ?_
    first | refine FGp hok13 7 rfl rfl (fun _ => (Gives.field0 rfl)) (by kernel_rfl) ?_ | refine FGp hok13 7 rfl rfl (fun _ => (Gives.field rfl)) (by kernel_rfl) ?_ | refine FGp hok13 7 rfl rfl (fun _ => (Gives.fieldA rfl)) (by kernel_rfl) ?_
    refine FGload hok13 8 H15 (h := ?_)
    refine FGcallN hok13 4 [(8, false), (7, true), (6, true), (5, true)] H15 (cloneMap_at H15 At2) (h := fun y w23 _ H23 _ => ⟨Stab_load H23 (h := Stab_pure (Stab_pure (Stab_pure (Stab_nil)))), ?_⟩)
    refine FGcallN hok13 9 [] H23 (cloneMap_at H23 At4) (h := fun z w25 _ H25 _ => ⟨Stab_nil, ?_⟩)
    first | refine FGp hok13 10 rfl rfl (fun _ => (Gives.field0 rfl)) (by kernel_rfl) ?_ | refine FGp hok13 10 rfl rfl (fun _ => (Gives.field rfl)) (by kernel_rfl) ?_ | refine FGp hok13 10 rfl rfl (fun _ => (Gives.fieldA rfl)) (by kernel_rfl) ?_
    refine FGstore hok13 11 [] H25 (h := fun w28 H28 => ⟨Stab_nil, ?_⟩)
    first | refine FGp hok13 12 rfl rfl (fun _ => (Gives.field0 rfl)) (by kernel_rfl) ?_ | refine FGp hok13 12 rfl rfl (fun _ => (Gives.field rfl)) (by kernel_rfl) ?_ | refine FGp hok13 12 rfl rfl (fun _ => (Gives.fieldA rfl)) (by kernel_rfl) ?_
    refine FGstore hok13 13 [] H28 (h := fun w31 H31 => ⟨Stab_nil, ?_⟩)
    refine FG_end hok13 (by kernel_rfl) ?_
    refine Qseq_normal ?_
    refine FW_seq ?_
    refine FW_drawS rfl H31 (h := fun hok32 w34 H34 => ?_)
    refine FGmove hok32 0 (h := ?_)
    refine FGp hok32 1 rfl rfl (fun _ => (Gives.nilCheck rfl)) (by kernel_rfl) ?_
    first | refine FGp hok32 2 rfl rfl (fun _ => (Gives.field0 rfl)) (by kernel_rfl) ?_ | refine FGp hok32 2 rfl rfl (fun _ => (Gives.field rfl)) (by kernel_rfl) ?_ | refine FGp hok32 2 rfl rfl (fun _ => (Gives.fieldA rfl)) (by kernel_rfl) ?_
    refine FGload hok32 3 H34 (h := ?_)
    refine FGmove hok32 5 (h := ?_)
    refine FGp hok32 6 rfl rfl (fun _ => (Gives.nilCheck rfl)) (by kernel_rfl) ?_
    first | refine FGp hok32 7 rfl rfl (fun _ => (Gives.field0 rfl)) (by kernel_rfl) ?_ | refine FGp hok32 7 rfl rfl (fun _ => (Gives.field rfl)) (by kernel_rfl) ?_ | refine FGp hok32 7 rfl rfl (fun _ => (Gives.fieldA rfl)) (by kernel_rfl) ?_
    refine FGload hok32 8 H34 (h := ?_)
    refine FGcallN hok32 4 [(8, false), (7, true), (6, true), (5, true)] H34 (cloneOpens_ok (H34.rowAt At6) (openCells_one _) hfit) (h := fun y2 w42 _ H42 _ => ⟨Stab_load H42 (h := Stab_pure (Stab_pure (Stab_pure (Stab_nil)))), ?_⟩)
    obtain ⟨Ay, cy, hy, _⟩ := Sep.rowForm H42 At0
    subst hy
    refine FGcallN hok32 9 [] H42 (cloneInts_ok (H42.rowAt At8) (by intro u hu; obtain ⟨k, _, rfl⟩ := List.mem_map.1 hu; rfl) hkl) (h := fun z2 w44 _ H44 _ => ⟨Stab_nil, ?_⟩)
    obtain ⟨Az, cz, hz, _⟩ := Sep.rowForm H44 At0
    subst hz
    first | refine FGp hok32 10 rfl rfl (fun _ => (Gives.field0 rfl)) (by kernel_rfl) ?_ | refine FGp hok32 10 rfl rfl (fun _ => (Gives.field rfl)) (by kernel_rfl) ?_ | refine FGp hok32 10 rfl rfl (fun _ => (Gives.fieldA rfl)) (by kernel_rfl) ?_
    refine FGstore hok32 11 [] H44 (h := fun w47 H47 => ⟨Stab_nil, ?_⟩)
    first | refine FGp hok32 12 rfl rfl (fun _ => (Gives.field0 rfl)) (by kernel_rfl) ?_ | refine FGp hok32 12 rfl rfl (fun _ => (Gives.field rfl)) (by kernel_rfl) ?_ | refine FGp hok32 12 rfl rfl (fun _ => (Gives.fieldA rfl)) (by kernel_rfl) ?_
    refine FGstore hok32 13 [] H47 (h := fun w50 H50 => ⟨Stab_nil, ?_⟩)
    refine FG_end hok32 (by kernel_rfl) ?_
    refine Qseq_normal ?_
    refine FW_seq ?_
    refine FW_region ?_
    refine FL_assign (h := ?_)
    refine FL_nil (Qseq_normal ?_)
    refine FW_ret (Qfn_ret (hR := ?_))
    have h1 := Sep.shutDisk (d := d) hwf H50.front1.front2.front3.front4
    have h2 := Sep.shutDisk (d := d) hwf h1.front5.front5.front5.front5.front5
    exact ⟨_, rfl, trivial, h2.join0.turn⟩
end
end Go.Proofs.Yteflbohpabdjkaa
