/-
  DiskKeeps, walked; and the plain law under it.
-/
import Derived.Test.YteflbohpabdjkaaLawC
namespace Go.Proofs.Yteflbohpabdjkaa
open Go Go.Mw
set_option maxRecDepth 8000

/-- What shows is what would stay, were all kept. -/
def DM.sync (d : DM) : Prop := DM.keptAll d.opn d.kept = d.now
theorem sync_new (n : Int) : (DM.new n).sync := rfl
theorem sync_put1 {d : DM} (h : d.sync) (a : Int) (b : List UInt8) : (d.put1 a b).sync := by
  show DM.keptAll (d.opn ++ [(a, pad b)]) d.kept = setAt d.now a (pad b)
  rw [keptAll_append, show DM.keptAll d.opn d.kept = d.now from h]
  rfl
theorem sync_puts {d : DM} (h : d.sync) (l : List PutM) : (d.puts l).sync := by
  induction l generalizing d with
  | nil => exact h
  | cons x l ih => exact ih (sync_put1 h _ _)
theorem sync_flushed {d : DM} (h : d.sync) : d.flushed.kept = d.flushed.now ∧ d.flushed.now = d.now := ⟨h, rfl⟩
theorem five_sync (l : List PutM) : (fiveM l).kept = (fiveM l).now ∧ (fiveM l).opn = [] := ⟨(sync_flushed (sync_puts (sync_new 5) _)).1, rfl⟩
theorem secsTo_congr {d e : DM} (h : d.now = e.now) : ∀ k, secsTo d k = secsTo e k
  | 0 => rfl
  | k + 1 => by simp only [secsTo, secsTo_congr h k, DM.sec, h]
theorem secB_good {d : DM} (h : d.good) : secB d = secsTo d 5 := by
  unfold secB
  rw [if_pos ⟨h.2.1, by rw [h.2.2.1]; decide⟩]
theorem crash_good {d : DM} (h : d.good) (keep : List Int) : d.crash keep = d.fall keep := by
  unfold DM.crash
  rw [h.2.1, if_neg (by simp)]
theorem good_fall {d : DM} (h : d.good) (keep : List Int) : (d.fall keep).boot.good := ⟨h.1.fall keep, rfl, h.2.2.1, rfl, h.2.2.2.2⟩
theorem secB_crash {d : DM} (h : d.good) (keep : List Int) : secB ((d.crash keep).boot) = secsTo { d with now := keptBy keep 0 d.opn d.kept } 5 := by
  rw [crash_good h, secB_good (good_fall h keep)]
  exact secsTo_congr rfl 5
theorem keeps_law (l : List PutM) (keep : List Int) : secB (((fiveM l).crash keep).boot) = secB (fiveM l) := by
  rw [secB_crash (good_five l), secB_good (good_five l)]
  refine secsTo_congr ?_ 5
  show keptBy keep 0 (fiveM l).opn (fiveM l).kept = (fiveM l).now
  rw [(five_sync l).2, (five_sync l).1]
  rfl
theorem secB_len {d : DM} (h : d.good) : (secB d).length = 640 := by rw [secB_good h, secsTo_length h.1]
section
variable {p : Nat} {d : DM} {F : Nat → Prop} {w w₀ : World} {S : Nat → Prop} {rs : List HP} {put : HP → List HP}
theorem sectors_at (H : Sep w₀ S rs w) (hat : At rs (diskH p d) put) : Rets Try.prog 19 [.pointer (some ⟨p, 0, none⟩)] w fun v w' => ∃ v', v = v' ∧ True ∧ Turn noB (rowH 5 1 v' (secB d).length ((secB d).map B)) w w' := by
  obtain ⟨F, hp, _⟩ := H.focus hat
  exact sectors_ok hp
/-- A crash, with numbers that stand in a row outside. -/
theorem crash_at {A : Option Addr} {c : Nat} {keep : List Int} (hs : d.small 1000000) (H : Sep w₀ S rs w) (hkl : keep.length ≤ 1000000) (hr : RowAt w₀ A keep.length 1 (keep.map I)) (hA : Off A keep.length S) (h : (diskH p d).ok F w) (hF : ∀ b, F b → S b ∨ w₀.heap.size ≤ b) :
    Rets Try.prog 20 [.pointer (some ⟨p, 0, none⟩), .slice A keep.length c] w fun v w' => v = .tuple #[] ∧ Turn F (diskH p (d.crash keep)) w w' :=
  crash_ok (by have := hs.1; omega) (by omega) (hr.keepS H.kept hA) (hA.of hr hF (by decide)) h
theorem eqBytes_at {A A' : Option Addr} {c c' n n' : Nat} {a b : List UInt8} (ha : RowAt w A n 1 (a.map B)) (hb : RowAt w A' n' 1 (b.map B)) : Rets Try.prog 22 [.slice A n c, .slice A' n' c'] w fun v w' => v = .bool (a == b) ∧ w = w' := by
  have h1 : n = a.length := by have := ha.len; simp at this; exact this.symm
  have h2 : n' = b.length := by have := hb.len; simp at this; exact this.symm
  subst h1 h2
  exact eqBytes_ok ha hb
theorem min100 (n : Nat) : min (n : Int) 100 = ((min n 100 : Nat) : Int) := by omega
theorem take_map (keep : List Int) (n : Nat) : (keep.map I).take (n * 1) = (keep.take n).map I := by rw [Nat.mul_one, List.map_take]
set_option maxHeartbeats 2000000 in
theorem keeps_ok {A K : Option Addr} {c ck : Nat} {l : List PutM} {keep : List Int} (hl : ∀ x ∈ l, x.fit) (hr : RowAt w A l.length 3 (putCells l)) (hk : RowAt w K keep.length 1 (keep.map I)) (hck : keep.length ≤ ck) :
    Rets Try.prog 3 [.slice A l.length c, .slice K keep.length ck] w fun v w' => v = .bool true ∧ Kept noB w w' := by
  have H := Sep.start0 w
  refine rets2 Try.func3 rfl rfl rfl rfl ?_
  have hm : min keep.length 100 = (keep.take (min keep.length 100)).length := by rw [List.length_take]; omega
  refine FW_seq ?_
  refine FW_region ?_
  refine FL_assign (h := ?_)
  refine FL_nil (Qseq_normal ?_)
  refine FW_seq ?_
  refine FW_seq ?_
  refine FW_region ?_
  refine FL_callQ H works_ok (h := fun w3 H3 _ => ?_)
  first | refine FL_val (Gives.notP rfl) rfl ?_ | refine FL_val (Gives.not rfl) rfl ?_
  refine FL_nil (Qseq_normal ?_)
  first | refine FW_condP rfl (fun hc5 => ?_) (fun hc5 => ?_) | refine FW_cond rfl (fun hc5 => ?_) (fun hc5 => ?_)
  · skip
    exact absurd hc5 (by decide) --done
  · skip
    refine FW_skip (Qseq_normal ?_)
    refine FW_seq ?_
    refine FW_region ?_
    refine FL_move (h := ?_)
    refine FL_callN H3 (five_ok hl (hr.keepS H3.kept fun _ _ _ => id)) rfl rfl (fun p w9 _ H9 _ => ?_)
    refine FL_assign (h := ?_)
    refine FL_nil (Qseq_normal ?_)
    refine FW_seq ?_
    refine FW_seq ?_
    refine FW_region ?_
    refine FL_move (h := ?_)
    refine FL_val (Gives.eqlNil rfl rfl) rfl ?_
    refine FL_nil (Qseq_normal ?_)
    first | refine FW_condP rfl (fun hc13 => ?_) (fun hc13 => ?_) | refine FW_cond rfl (fun hc13 => ?_) (fun hc13 => ?_)
    · skip
      cases hc13 --done
    · skip
      refine FW_skip (Qseq_normal ?_)
      refine FW_seq ?_
      refine FW_region ?_
      refine FL_move (h := ?_)
      refine FL_callN H9 (sectors_at H9 At0) rfl rfl (fun y w17 _ H17 _ => ?_)
      obtain ⟨Ay, cy, hy, _⟩ := Sep.rowForm H17 At0
      subst hy
      refine FL_assign (h := ?_)
      refine FL_nil (Qseq_normal ?_)
      refine FW_seq ?_
      refine FW_region ?_
      refine FL_move (h := ?_)
      refine FL_move (h := ?_)
      refine FL_move (h := ?_)
      refine FL_val (Gives.lenSlice rfl) rfl ?_
      refine FL_val (Gives.min rfl rfl) rfl ?_
      rw [min100]
      refine FL_val (Gives.sliceTo rfl rfl (by omega)) rfl ?_
      rw [hm]
      refine FL_call1 H17 At1 (fun F' hp hF' => crash_at (A := K) (c := ck) (keep := keep.take (min keep.length 100)) ((small_five l).mono (by decide)) H17 (by rw [List.length_take]; omega) (by rw [← hm, ← take_map]; exact hk.take (by omega)) (fun _ _ _ => id) hp hF') (h := fun w26 H26 => ?_)
      refine FL_nil (Qseq_normal ?_)
      refine FW_seq ?_
      refine FW_region ?_
      refine FL_move (h := ?_)
      refine FL_call1 H26 At1 (fun F' hp _ => boot_ok hp) (h := fun w29 H29 => ?_)
      refine FL_nil (Qseq_normal ?_)
      refine FW_seq ?_
      refine FW_region ?_
      refine FL_move (h := ?_)
      refine FL_callN H29 (sectors_at H29 At1) rfl rfl (fun z w32 _ H32 _ => ?_)
      obtain ⟨Az, cz, hz, _⟩ := Sep.rowForm H32 At0
      subst hz
      refine FL_assign (h := ?_)
      refine FL_nil (Qseq_normal ?_)
      refine FW_seq ?_
      refine FW_region ?_
      refine FL_move (h := ?_)
      refine FL_val (Gives.lenSlice rfl) rfl ?_
      refine FL_val (Gives.eql rfl rfl) rfl ?_
      refine FL_move (h := ?_)
      first | refine FL_splitP (t := 30) rfl (fun hs38 => ?_) (fun hs38 => ?_) | refine FL_split (t := 30) rfl (fun hs38 => ?_) (fun hs38 => ?_)
      · skip
        refine FL_on rfl rfl ?_
        refine FL_move (h := ?_)
        refine FL_on rfl rfl ?_
        refine FL_move (h := ?_)
        refine FL_on rfl rfl ?_
        refine FL_callS (eqBytes_at (H32.rowAt At1) (H32.rowAt At0)) (h := ?_)
        refine FL_pickT (h := ?_)
        refine FL_assign (h := ?_)
        refine FL_nil (Qseq_normal ?_)
        refine FW_ret (Qfn_ret (hR := ?_))
        rw [keeps_law]
        exact ⟨by simp [resPack], H32.kept⟩
      · skip
        exact absurd (by rw [secB_len (good_five l)]; rfl) hs38 --done
end
end Go.Proofs.Yteflbohpabdjkaa
