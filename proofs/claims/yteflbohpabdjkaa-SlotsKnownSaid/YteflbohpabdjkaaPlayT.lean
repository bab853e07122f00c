/-
  SlotsPlay, walked: what slots answer, and do to a disk, call by call.
-/
import Derived.Test.YteflbohpabdjkaaPlayS
namespace Go.Proofs.Yteflbohpabdjkaa
open Go Go.Mw
set_option maxRecDepth 8000

theorem fall_size (d : DM) (k : List Int) : (d.fall k).size = d.size := rfl
theorem count_size (d : DM) : d.count.2.size = d.size := by unfold DM.count; split <;> rfl
theorem write_size (d : DM) (k : Int) (b : List UInt8) : (d.write k b).2.size = d.size := by
  unfold DM.write
  split
  · rfl
  · split
    · rfl
    · exact count_size _
theorem flush_size (d : DM) : d.flush.2.size = d.size := by
  unfold DM.flush
  split
  · rfl
  · split
    · exact count_size d
    · exact count_size d
theorem failAt_size (d : DM) (t : Int) (k : List Int) : (d.failAt t k).size = d.size := by
  unfold DM.failAt
  split
  · rfl
  · split <;> rfl
theorem crash_size (d : DM) (k : List Int) : (d.crash k).size = d.size := by unfold DM.crash; split <;> rfl
theorem go_size {x : Int × DM} {f : DM → Int × DM} (hf : ∀ d, (f d).2.size = d.size) : (go x f).2.size = x.2.size := by
  unfold go
  split
  · exact hf _
  · rfl
theorem wr_size (a : Int) (b : List UInt8) (x : Int × DM) : ∀ k, (wr a b k x).2.size = x.2.size
  | 0 => rfl
  | k + 1 => by
    show (go (wr a b k x) _).2.size = _
    rw [go_size (fun d => write_size d _ _), wr_size a b x k]
theorem save_size (m : SM) (d : DM) (b : List UInt8) : (save m d b).2.2.size = d.size := by
  have h1 : (save1 (m.n + 1) b d).2.size = d.size := by
    unfold save1
    rw [go_size flush_size, go_size (fun d => write_size d _ _), go_size flush_size, wr_size]
  unfold save
  split
  · rfl
  · split
    · rfl
    · split
      · exact h1
      · exact h1
theorem ok_size {m : SM} {d e : DM} (h : m.ok d) (hs : e.size = d.size) : m.ok e := ⟨h.n0, h.n, h.many0, by have := h.many; unfold room half at this ⊢; rw [hs]; exact this, by rw [hs]; exact h.size⟩
theorem save_ok {m : SM} {d : DM} {b : List UInt8} (h : m.ok d) : (save m d b).2.1.ok (save m d b).2.2 := by
  refine ok_size ?_ (save_size m d b)
  unfold save
  split
  · exact h
  · split
    · exact h
    · rename_i h2
      have hn := h.n
      have hn0 := h.n0
      split
      · exact ⟨h.n0, h.n, h.many0, h.many, h.size⟩
      · exact ⟨by show 0 ≤ m.n + 1; omega, by
          show m.n + 1 ≤ mostNum
          by_cases hq : m.n = mostNum
          · exact absurd (.inr hq) h2
          · omega, by show (0 : Int) ≤ b.length; omega, by
          show (b.length : Int) ≤ room d
          by_cases hq : room d < b.length
          · exact absurd (.inl hq) h2
          · omega, h.size⟩
theorem load_ok {m : SM} {d : DM} (h : m.ok d) : (load m d).2.2.ok d := by
  unfold load
  split
  · exact h
  · split
    · exact h
    · split
      · exact ⟨h.n0, h.n, h.many0, h.many, h.size⟩
      · exact h
theorem load_len {m : SM} {d : DM} (h : m.ok d) (hwf : d.wf) : (load m d).1.length ≤ 4194304 := by
  have h1 := h.many
  have h2 := (room_bd hwf).2
  unfold load
  split
  · exact Nat.zero_le _
  · split
    · exact Nat.zero_le _
    · split
      · exact Nat.zero_le _
      · rw [List.length_take]
        omega
theorem openS_okS {d : DM} (h : (openS d).1 = 0) : (openS d).2.ok d := by
  unfold openS at h ⊢
  split at h
  · cases h
  · split at h
    · cases h
    · rename_i h1 h2
      rw [if_neg h1, if_neg h2]
      cases hq : rootOf d (d.sec 0) with
      | none => rw [hq] at h; cases h
      | some y =>
        unfold rootOf at hq
        dsimp only at hq
        split at hq
        · rename_i hc
          injection hq with hq
          subst hq
          refine ⟨by dsimp only; omega, hc.2.1, by dsimp only; omega, hc.2.2.1, by omega⟩
        · cases hq
theorem size_nil {w : World} : Rets Try.prog 45 [.pointer none] w fun v w' => v = I 0 ∧ w = w' := by
  refine rets1 Try.func45 rfl rfl rfl rfl ?_
  refine FW_seq ?_
  refine FW_region ?_
  refine FL_assign (h := ?_)
  refine FL_nil (Qseq_normal ?_)
  refine FW_seq ?_
  refine FW_seq ?_
  refine FW_region ?_
  refine FL_move (h := ?_)
  refine FL_callS none_nil (h := ?_)
  refine FL_nil (Qseq_normal ?_)
  first | refine FW_condP rfl (fun hc4 => ?_) (fun hc4 => ?_) | refine FW_cond rfl (fun hc4 => ?_) (fun hc4 => ?_)
  · skip
    refine FW_seq ?_
    refine FW_region ?_
    refine FL_assign (h := ?_)
    refine FL_nil (Qseq_normal ?_)
    refine FW_ret (Qseq_ret (Qfn_ret (hR := ?_)))
    exact ⟨rfl, rfl⟩
  · skip
    first | exact absurd rfl hc4 | exact (hc4 trivial).elim | exact absurd hc4 (by decide) | exact absurd hc4 (by simp) | omega --done
theorem openNil_ok {w : World} : Rets Try.prog 52 [.pointer none] w fun v w' => v = .tuple #[.pointer none, I 1] ∧ w = w' := by
  refine rets1 Try.func52 rfl rfl rfl rfl ?_
  refine FW_seq ?_
  refine FW_region ?_
  refine FL_assign (h := ?_)
  refine FL_assign (h := ?_)
  refine FL_nil (Qseq_normal ?_)
  refine FW_seq ?_
  refine FW_seq ?_
  refine FW_region ?_
  refine FL_move (h := ?_)
  refine FL_callS size_nil (h := ?_)
  refine FL_val (Gives.eql rfl rfl) rfl ?_
  refine FL_nil (Qseq_normal ?_)
  first | refine FW_condP rfl (fun hc6 => ?_) (fun hc6 => ?_) | refine FW_cond rfl (fun hc6 => ?_) (fun hc6 => ?_)
  · skip
    refine FW_seq ?_
    refine FW_region ?_
    refine FL_assign (h := ?_)
    refine FL_assign (h := ?_)
    refine FL_nil (Qseq_normal ?_)
    refine FW_ret (Qseq_ret (Qfn_ret (hR := ?_)))
    exact ⟨rfl, rfl⟩
  · skip
    first | exact absurd rfl hc6 | exact (hc6 trivial).elim | exact absurd hc6 (by decide) | exact absurd hc6 (by simp) | omega --done
theorem openRNil_ok {w : World} : Rets Try.prog 55 [.pointer none] w fun v w' => v = .tuple #[.pointer none, I 1] ∧ w = w' := by
  refine rets1 Try.func55 rfl rfl rfl rfl ?_
  refine FW_seq ?_
  refine FW_region ?_
  refine FL_assign (h := ?_)
  refine FL_assign (h := ?_)
  refine FL_nil (Qseq_normal ?_)
  refine FW_seq ?_
  refine FW_seq ?_
  refine FW_region ?_
  refine FL_move (h := ?_)
  refine FL_val (Gives.eqlNil rfl rfl) rfl ?_
  refine FL_nil (Qseq_normal ?_)
  first | refine FW_condP rfl (fun hc5 => ?_) (fun hc5 => ?_) | refine FW_cond rfl (fun hc5 => ?_) (fun hc5 => ?_)
  · skip
    refine FW_seq ?_
    refine FW_region ?_
    refine FL_assign (h := ?_)
    refine FL_assign (h := ?_)
    refine FL_nil (Qseq_normal ?_)
    refine FW_ret (Qseq_ret (Qfn_ret (hR := ?_)))
    exact ⟨rfl, rfl⟩
  · skip
    first | exact absurd rfl hc5 | exact (hc5 trivial).elim | exact absurd hc5 (by decide) | exact absurd hc5 (by simp) | omega --done
section
variable {w : World}
theorem slotsPlay_bad {sect : Int} {V1 V2 : Value} (hf : fits sect) (hn : sect % 13 = 0) :
    Rets Try.prog 15 [I sect, V1, V2] w fun v w' => v = .bool true ∧ Kept noB w w' := by
  have H := Sep.start0 w
  refine rets3 Try.func15 rfl rfl rfl rfl ?_
  refine FW_seq ?_
  refine FW_region ?_
  refine FL_assign (h := ?_)
  refine FL_nil (Qseq_normal ?_)
  refine FW_seq ?_
  refine FW_region ?_
  refine FL_move (h := ?_)
  refine FL_callS (bring_ok sect 13 hf (by decide)) (h := ?_)
  rw [hn]
  refine FL_assign (h := ?_)
  refine FL_nil (Qseq_normal ?_)
  refine FW_seq ?_
  refine FW_region ?_
  refine FL_move (h := ?_)
  refine FL_callS (new_bad 0 (by decide)) (h := ?_)
  refine FL_move (h := ?_)
  refine FL_val (Gives.extract rfl rfl) rfl ?_
  refine FL_val (Gives.extract rfl rfl) rfl ?_
  refine FL_assign (h := ?_)
  refine FL_assign (h := ?_)
  refine FL_nil (Qseq_normal ?_)
  refine FW_seq ?_
  refine FW_region ?_
  refine FL_move (h := ?_)
  refine FL_callS (newR_bad 0 (by decide)) (h := ?_)
  refine FL_move (h := ?_)
  refine FL_val (Gives.extract rfl rfl) rfl ?_
  refine FL_val (Gives.extract rfl rfl) rfl ?_
  refine FL_assign (h := ?_)
  refine FL_assign (h := ?_)
  refine FL_nil (Qseq_normal ?_)
  refine FW_seq ?_
  refine FW_seq ?_
  refine FW_region ?_
  refine FL_move (h := ?_)
  refine FL_move (h := ?_)
  refine FL_val (Gives.neq rfl rfl) rfl ?_
  refine FL_nil (Qseq_normal ?_)
  first | refine FW_condP rfl (fun hc22 => ?_) (fun hc22 => ?_) | refine FW_cond rfl (fun hc22 => ?_) (fun hc22 => ?_)
  · skip
    first | exact absurd rfl hc22 | exact (hc22 trivial).elim | exact absurd hc22 (by decide) | exact absurd hc22 (by simp) | omega --done
  · skip
    refine FW_skip (Qseq_normal ?_)
    refine FW_seq ?_
    refine FW_seq ?_
    refine FW_region ?_
    refine FL_move (h := ?_)
    refine FL_val (Gives.eql rfl rfl) rfl ?_
    refine FL_nil (Qseq_normal ?_)
    first | refine FW_condP rfl (fun hc26 => ?_) (fun hc26 => ?_) | refine FW_cond rfl (fun hc26 => ?_) (fun hc26 => ?_)
    · skip
      first | exact absurd rfl hc26 | exact (hc26 trivial).elim | exact absurd hc26 (by decide) | exact absurd hc26 (by simp) | omega --done
    · skip
      refine FW_skip (Qseq_normal ?_)
      refine FW_seq ?_
      refine FW_region ?_
      refine FL_move (h := ?_)
      refine FL_callS openNil_ok (h := ?_)
      refine FL_move (h := ?_)
      refine FL_val (Gives.extract rfl rfl) rfl ?_
      refine FL_val (Gives.extract rfl rfl) rfl ?_
      refine FL_assign (h := ?_)
      refine FL_assign (h := ?_)
      refine FL_nil (Qseq_normal ?_)
      refine FW_seq ?_
      refine FW_region ?_
      refine FL_move (h := ?_)
      refine FL_callS openRNil_ok (h := ?_)
      refine FL_move (h := ?_)
      refine FL_val (Gives.extract rfl rfl) rfl ?_
      refine FL_val (Gives.extract rfl rfl) rfl ?_
      refine FL_assign (h := ?_)
      refine FL_assign (h := ?_)
      refine FL_nil (Qseq_normal ?_)
      refine FW_seq ?_
      refine FW_seq ?_
      refine FW_region ?_
      refine FL_move (h := ?_)
      refine FL_move (h := ?_)
      refine FL_val (Gives.neq rfl rfl) rfl ?_
      refine FL_move (h := ?_)
      first | refine FL_splitP (t := 78) rfl (fun hs46 => ?_) (fun hs46 => ?_) | refine FL_split (t := 78) rfl (fun hs46 => ?_) (fun hs46 => ?_)
      · skip
        first | exact absurd rfl hs46 | exact (hs46 trivial).elim | exact absurd hs46 (by decide) | exact absurd hs46 (by simp) | omega --done
      · skip
        refine FL_on rfl rfl ?_
        refine FL_move (h := ?_)
        refine FL_on rfl rfl ?_
        refine FL_val (Gives.eqlNil rfl rfl) rfl ?_
        refine FL_on rfl rfl ?_
        refine FL_move (h := ?_)
        refine FL_on rfl rfl ?_
        refine FL_val (Gives.eqlNil rfl rfl) rfl ?_
        refine FL_on rfl rfl ?_
        refine FL_val (Gives.neqB rfl rfl) rfl ?_
        refine FL_pickF (h := ?_)
        refine FL_nil (Qseq_normal ?_)
        first | refine FW_condP rfl (fun hc54 => ?_) (fun hc54 => ?_) | refine FW_cond rfl (fun hc54 => ?_) (fun hc54 => ?_)
        · skip
          first | exact absurd rfl hc54 | exact (hc54 trivial).elim | exact absurd hc54 (by decide) | exact absurd hc54 (by simp) | omega --done
        · skip
          refine FW_skip (Qseq_normal ?_)
          refine FW_seq ?_
          refine FW_seq ?_
          refine FW_region ?_
          refine FL_move (h := ?_)
          refine FL_val (Gives.neq rfl rfl) rfl ?_
          refine FL_nil (Qseq_normal ?_)
          first | refine FW_condP rfl (fun hc58 => ?_) (fun hc58 => ?_) | refine FW_cond rfl (fun hc58 => ?_) (fun hc58 => ?_)
          · skip
            refine FW_seq ?_
            refine FW_region ?_
            refine FL_callQ H worksS_ok (h := fun w60 H60 _ => ?_)
            refine FL_assign (h := ?_)
            refine FL_nil (Qseq_normal ?_)
            refine FW_ret (Qseq_ret (Qfn_ret (hR := ?_)))
            exact ⟨rfl, H60.kept⟩
          · skip
            first | exact absurd rfl hc58 | exact (hc58 trivial).elim | exact absurd hc58 (by decide) | exact absurd hc58 (by simp) | omega --done
abbrev ptrO (x : Option Nat) : Value := .pointer (x.map fun s => ⟨s, 0, none⟩)
/-- Where the play stands. -/
structure PS (n : Int) (k : Nat) (x y : Option Nat) (m : SM) (d : DM) (a : AM) : Prop where
  both : Both k d a
  xy : x.isSome = y.isSome
  ok : x.isSome = true → m.ok d
  size : d.size = n
theorem PS.up {n : Int} {k j : Nat} {x y : Option Nat} {m : SM} {d : DM} {a : AM} (h : PS n k x y m d a) (hj : k ≤ j) : PS n j x y m d a := ⟨h.both.up hj, h.xy, h.ok, h.size⟩
theorem PS.disk {n : Int} {k j : Nat} {x y : Option Nat} {m : SM} {d e : DM} {a b : AM} (h : PS n k x y m d a) (hB : Both j e b) (hs : e.size = d.size) : PS n j x y m e b := ⟨hB, h.xy, fun hx => ok_size (h.ok hx) hs, hs.trans h.size⟩
theorem none_eq {x y : Option Nat} (h : x.isSome = y.isSome) : (x.map fun s : Nat => (⟨s, 0, none⟩ : Addr)).isNone = (y.map fun s : Nat => (⟨s, 0, none⟩ : Addr)).isNone := by
  cases x <;> cases y <;> first | rfl | cases h
set_option maxHeartbeats 32000000 in
theorem slotsPlay_ok {sect : Int} {A1 L : Option Addr} {c1 cl : Nat} {first : List UInt8} {l : List DoS} (hf : fits sect) (hn : ¬ sect % 13 = 0) (hc1 : first.length ≤ c1) (hr1 : RowAt w A1 first.length 1 (first.map B)) (hr : RowAt w L l.length 4 (l.flatMap doSCells)) (hl : ∀ x ∈ l, x.good w) :
    Rets Try.prog 15 [I sect, .slice A1 first.length c1, .slice L l.length cl] w fun v w' => v = .bool true ∧ Kept noB w w' := by
  have H := Sep.start0 w
  refine rets3 Try.func15 rfl rfl rfl rfl ?_
  obtain ⟨n, hnn⟩ : ∃ n, sect % 13 = n := ⟨_, rfl⟩
  have hnb : 1 ≤ n ∧ n ≤ 12 := by omega
  obtain ⟨fb, hfb⟩ : ∃ fb, fb = first.take (min first.length 128) := ⟨_, rfl⟩
  have hfl : min first.length 128 = fb.length := by rw [hfb, List.length_take]; omega
  have hrf : RowAt w A1 fb.length 1 (fb.map B) := by
    have h1 := hr1.take (k := fb.length) (by omega)
    rwa [Nat.mul_one, ← List.map_take, ← hfl, ← hfb, hfl] at h1
  have hB0 := Both.new n ⟨by omega, by omega⟩
  have hw0 := hB0.write (by decide) 0 fb
  have hw1 := hw0.2.flush (by decide)
  refine FW_seq ?_
  refine FW_region ?_
  refine FL_assign (h := ?_)
  refine FL_nil (Qseq_normal ?_)
  refine FW_seq ?_
  refine FW_region ?_
  refine FL_move (h := ?_)
  refine FL_callS (bring_ok sect 13 hf (by decide)) (h := ?_)
  rw [hnn]
  refine FL_assign (h := ?_)
  refine FL_nil (Qseq_normal ?_)
  refine FW_seq ?_
  refine FW_region ?_
  refine FL_move (h := ?_)
  refine FL_callN H (new_ok n ⟨by omega, by omega⟩) rfl rfl (fun p w7 _ H7 _ => ?_)
  refine FL_move (h := ?_)
  refine FL_val (Gives.extract rfl rfl) rfl ?_
  refine FL_val (Gives.extract rfl rfl) rfl ?_
  refine FL_assign (h := ?_)
  refine FL_assign (h := ?_)
  refine FL_nil (Qseq_normal ?_)
  refine FW_seq ?_
  refine FW_region ?_
  refine FL_move (h := ?_)
  refine FL_callN H7 (newR_ok n ⟨by omega, by omega⟩) rfl rfl (fun q w15 _ H15 _ => ?_)
  refine FL_move (h := ?_)
  refine FL_val (Gives.extract rfl rfl) rfl ?_
  refine FL_val (Gives.extract rfl rfl) rfl ?_
  refine FL_assign (h := ?_)
  refine FL_assign (h := ?_)
  refine FL_nil (Qseq_normal ?_)
  refine FW_seq ?_
  refine FW_seq ?_
  refine FW_region ?_
  refine FL_move (h := ?_)
  refine FL_move (h := ?_)
  refine FL_val (Gives.neq rfl rfl) rfl ?_
  refine FL_nil (Qseq_normal ?_)
  first | refine FW_condP rfl (fun hc24 => ?_) (fun hc24 => ?_) | refine FW_cond rfl (fun hc24 => ?_) (fun hc24 => ?_)
  · skip
    first | exact absurd rfl hc24 | exact (hc24 trivial).elim | exact absurd hc24 (by decide) | exact absurd hc24 (by simp) | omega --done
  · skip
    refine FW_skip (Qseq_normal ?_)
    refine FW_seq ?_
    refine FW_seq ?_
    refine FW_region ?_
    refine FL_move (h := ?_)
    refine FL_val (Gives.eql rfl rfl) rfl ?_
    refine FL_nil (Qseq_normal ?_)
    first | refine FW_condP rfl (fun hc28 => ?_) (fun hc28 => ?_) | refine FW_cond rfl (fun hc28 => ?_) (fun hc28 => ?_)
    · skip
      refine FW_seq ?_
      refine FW_region ?_
      refine FL_move (h := ?_)
      refine FL_move (h := ?_)
      refine FL_move (h := ?_)
      refine FL_val (Gives.lenSlice rfl) rfl ?_
      refine FL_val (gives_minN (k := 128) hfl rfl rfl rfl) rfl ?_
      refine FL_val (Gives.sliceTo rfl rfl (by omega)) rfl ?_
      have hd0 := hB0.ds
      refine FL_call1 H15 At1 (fun F' hp hF' => write_ok (b := fb) (at_ := 0) (by have := hd0.1; omega) (by have := hd0.2.1; omega) (by have := hd0.2.2; unfold fits; omega) (hrf.keepS H15.kept fun _ _ _ => id) (Off.of (F := F') (S := noB) (fun _ _ _ => id) hrf (fun b hb => hF' b hb) (by decide)) hp) (h := fun w36 H36 => ?_)
      refine FL_nil (Qseq_normal ?_)
      refine FW_seq ?_
      refine FW_region ?_
      refine FL_move (h := ?_)
      refine FL_move (h := ?_)
      refine FL_move (h := ?_)
      refine FL_val (Gives.lenSlice rfl) rfl ?_
      refine FL_val (gives_minN (k := 128) hfl rfl rfl rfl) rfl ?_
      refine FL_val (Gives.sliceTo rfl rfl (by omega)) rfl ?_
      refine FL_call1 H36 At0 (fun F' hp hF' => writeR_ok (b := fb) (at_ := 0) (hB0.as_.mono (by decide)) (hrf.keepS H36.kept fun _ _ _ => id) (Off.of (F := F') (S := noB) (fun _ _ _ => id) hrf (fun b hb => hF' b hb) (by decide)) hp) (h := fun w44 H44 => ?_)
      refine FL_nil (Qseq_normal ?_)
      refine FW_seq ?_
      refine FW_region ?_
      refine FL_move (h := ?_)
      have hd1 := hw0.2.ds
      refine FL_call1 H44 At1 (fun F' hp _ => flush_ok (by have := hd1.1; omega) (by have := hd1.2.1; omega) (by have := hd1.2.2; unfold fits; omega) hp) (h := fun w47 H47 => ?_)
      refine FL_nil (Qseq_normal ?_)
      refine FW_region ?_
      refine FL_move (h := ?_)
      refine FL_call1 H47 At0 (fun F' hp _ => flushR_ok (hw0.2.as_.mono (by decide)) hp) (h := fun w50 H50 => ?_)
      have hsz0 : ((DM.new n).write 0 fb).2.flush.2.size = n := by rw [flush_size, write_size]; rfl
      have hB1 := hw1.2
      generalize ((DM.new n).write 0 fb).2.flush.2 = d0 at H50 hsz0 hB1
      generalize ((AM.new n).write 0 fb).2.flush.2 = a0 at H50 hB1
      refine FL_nil (Qseq_normal ?_)
      refine FW_seq ?_
      refine FW_region ?_
      refine FL_move (h := ?_)
      obtain ⟨F3, hp3, _⟩ := H50.focus At1
      refine FL_callN H50 (q := fun x => openH x p (openS d0).2) (val := fun x : Option Nat => .tuple #[ptrO x, I (openS d0).1]) (φ := fun x => x.isSome = decide ((openS d0).1 = 0)) (openS_ok hp3) rfl rfl (fun x0 w53 hx0 H53 _ => ?_)
      refine FL_move (h := ?_)
      refine FL_val (Gives.extract rfl rfl) rfl ?_
      refine FL_val (Gives.extract rfl rfl) rfl ?_
      refine FL_assign (h := ?_)
      refine FL_assign (h := ?_)
      refine FL_nil (Qseq_normal ?_)
      refine FW_seq ?_
      refine FW_region ?_
      refine FL_move (h := ?_)
      obtain ⟨F4, hp4, _⟩ := H53.focus At1
      refine FL_callN H53 (q := fun x => openRH x q (openS d0).2) (val := fun x : Option Nat => .tuple #[ptrO x, I (openS d0).1]) (φ := fun x => x.isSome = decide ((openS d0).1 = 0)) (openR_ok hB1 (by decide) hp4) rfl rfl (fun y0 w61 hy0 H61 _ => ?_)
      have hps0 : PS n 10 x0 y0 (openS d0).2 d0 a0 := ⟨hB1.up (by decide), hx0.trans hy0.symm, fun h => openS_okS (by rw [hx0] at h; exact of_decide_eq_true h), hsz0⟩
      refine FL_move (h := ?_)
      refine FL_val (Gives.extract rfl rfl) rfl ?_
      refine FL_val (Gives.extract rfl rfl) rfl ?_
      refine FL_assign (h := ?_)
      refine FL_assign (h := ?_)
      refine FL_nil (Qseq_normal ?_)
      refine FW_seq ?_
      refine FW_seq ?_
      refine FW_region ?_
      refine FL_move (h := ?_)
      refine FL_move (h := ?_)
      refine FL_val (Gives.neq rfl rfl) rfl ?_
      refine FL_move (h := ?_)
      first | refine FL_splitP (t := 78) rfl (fun hs71 => ?_) (fun hs71 => ?_) | refine FL_split (t := 78) rfl (fun hs71 => ?_) (fun hs71 => ?_)
      · skip
        first | exact absurd rfl hs71 | exact (hs71 trivial).elim | exact absurd hs71 (by decide) | exact absurd hs71 (by simp) | omega --done
      · skip
        refine FL_on rfl rfl ?_
        refine FL_move (h := ?_)
        refine FL_on rfl rfl ?_
        refine FL_val (Gives.eqlNil rfl rfl) rfl ?_
        refine FL_on rfl rfl ?_
        refine FL_move (h := ?_)
        refine FL_on rfl rfl ?_
        refine FL_val (Gives.eqlNil rfl rfl) rfl ?_
        refine FL_on rfl rfl ?_
        refine FL_val (Gives.neqB rfl rfl) rfl ?_
        refine FL_pickF (h := ?_)
        refine FL_nil (Qseq_normal ?_)
        first | refine FW_condP rfl (fun hc79 => ?_) (fun hc79 => ?_) | refine FW_cond rfl (fun hc79 => ?_) (fun hc79 => ?_)
        · skip
          (rw [none_eq hps0.xy] at hc79; simp at hc79) --done
        · skip
          refine FW_skip (Qseq_normal ?_)
          refine FW_seq ?_
          refine FW_seq ?_
          refine FW_region ?_
          refine FL_move (h := ?_)
          refine FL_val (Gives.neq rfl rfl) rfl ?_
          refine FL_nil (Qseq_normal ?_)
          first | refine FW_condP rfl (fun hc83 => ?_) (fun hc83 => ?_) | refine FW_cond rfl (fun hc83 => ?_) (fun hc83 => ?_)
          · skip
            first | exact absurd rfl hc83 | exact (hc83 trivial).elim | exact absurd hc83 (by decide) | exact absurd hc83 (by simp) | omega --done
          · skip
            refine FW_skip (Qseq_normal ?_)
            refine FW_seq ?_
            refine FW_seq ?_
            refine FW_region ?_
            refine FL_assign (h := ?_)
            refine FL_nil (Qseq_normal ?_)
            refine FW_block ?_
            refine FW_loop' (fun z : Nat × (Option Nat × Option Nat) × SM × DM × AM => [(0, I n), (2, .slice L l.length cl), (7, .pointer (some ⟨p, 0, none⟩)), (9, .pointer (some ⟨q, 0, none⟩)), (11, ptrO z.2.1.1), (13, ptrO z.2.1.2), (15, I z.1)])
              (fun z w' => z.1 ≤ l.length ∧ z.1 ≤ 40 ∧ PS n (20 * z.1 + 10) z.2.1.1 z.2.1.2 z.2.2.1 z.2.2.2.1 z.2.2.2.2 ∧ Sep w noB [openH z.2.1.1 p z.2.2.1, openRH z.2.1.2 q z.2.2.1, diskH p z.2.2.2.1, refA q z.2.2.2.2] w') (fun z _ => l.length - z.1) (0, (x0, y0), (openS d0).2, d0, a0)
              ⟨rfl, rfl, rfl, rfl, rfl, rfl, rfl, trivial⟩ ⟨Nat.zero_le _, Nat.zero_le _, hps0, H61.front3.front1.front2⟩ (fun z τ w87 hI => ?_)
            obtain ⟨i, ⟨x, y⟩, m, d, a⟩ := z
            obtain ⟨hi, hi40, hP, H87⟩ := hI
            dsimp only at hi hi40 hP H87
            try simp only [upds, like, upd_ds, und_ds]
            refine FW_seq ?_
            refine FW_seq ?_
            refine FW_region ?_
            refine FL_move (h := ?_)
            refine FL_move (h := ?_)
            refine FL_val (Gives.lenSlice rfl) rfl ?_
            refine FL_val (Gives.lss rfl rfl) rfl ?_
            refine FL_move (h := ?_)
            first | refine FL_splitP (t := 92) rfl (fun hs93 => ?_) (fun hs93 => ?_) | refine FL_split (t := 92) rfl (fun hs93 => ?_) (fun hs93 => ?_)
            · skip
              have hc1' := hs93
              refine FL_on rfl rfl ?_
              refine FL_move (h := ?_)
              refine FL_on rfl rfl ?_
              refine FL_val (Gives.lss rfl rfl) rfl ?_
              refine FL_pickT (h := ?_)
              refine FL_nil (Qseq_normal ?_)
              first | refine FW_condP rfl (fun hc98 => ?_) (fun hc98 => ?_) | refine FW_cond rfl (fun hc98 => ?_) (fun hc98 => ?_)
              · skip
                have hlt : i < l.length := by omega
                have hlt40 : i < 40 := by omega
                obtain ⟨ad, hAd, _⟩ := hr.at_ (by omega)
                subst hAd
                have hg := hl _ (List.getElem_mem hlt)
                obtain ⟨ks, hks⟩ : ∃ ks, ks = l[i].ks.take (min l[i].ks.length 20) := ⟨_, rfl⟩
                have hkl : min l[i].ks.length 20 = ks.length := by rw [hks, List.length_take]; omega
                have hrk : RowAt w l[i].ak ks.length 1 (ks.map I) := by
                  have h1 := hg.rk.take (k := ks.length) (by omega)
                  rwa [Nat.mul_one, ← List.map_take, ← hkl, ← hks, hkl] at h1
                have hgk := hg.hk
                have hB := hP.both
                have hds := hB.ds
                have hsm := hB.as_.mono (show 40 + (20 * i + 10) ≤ 100000 by omega)
                have hdl := doB_length l[i]
                refine FW_skip (Qseq_normal ?_)
                refine FW_seq ?_
                refine FW_block ?_
                refine FW_seq ?_
                refine FW_region ?_
                refine FL_move (h := ?_)
                refine FL_move (h := ?_)
                refine FL_val (Gives.idx rfl rfl hlt) rfl ?_
                refine FL_loadCN (us := doSCells l[i]) ((hr.keep H87.kept).elem rfl i hlt (us := doSCells l[i]) (doSCells_get l i hlt)) (hk := rfl) (h := ?_)
                refine FL_alloc H87 (h := ?_)
                intro b16 w105 H105 _
                refine FL_storeN (us := doSCells l[i]) (cs := [Value.int .i64 0, Value.int .i64 0, Value.int .i64 0, Value.slice none 0 0]) H105 (hk := rfl) (hv := by intro u hu; simp [doSCells] at hu; rcases hu with rfl | rfl | rfl | rfl <;> rfl) (ho := Nat.le_refl 4) (hs := storeN_all rfl) (h := ?_)
                intro w107 H107
                refine FL_nil (Qseq_normal ?_)
                refine FW_seq ?_
                refine FW_region ?_
                first | refine FL_val (Gives.field0 rfl) rfl ?_ | refine FL_val (Gives.field rfl) rfl ?_ | refine FL_val (Gives.fieldA rfl) rfl ?_
                refine FL_load H107 (hat := At0) (cs := doSCells l[i]) (h := ?_)
                first | refine FL_val (Gives.field0 rfl) rfl ?_ | refine FL_val (Gives.field rfl) rfl ?_ | refine FL_val (Gives.fieldA rfl) rfl ?_
                refine FL_load H107 (hat := At0) (cs := doSCells l[i]) (h := ?_)
                refine FL_val (Gives.lenSlice rfl) rfl ?_
                refine FL_val (gives_minN (k := 20) hkl rfl rfl rfl) rfl ?_
                refine FL_val (Gives.sliceTo rfl rfl (by omega)) rfl ?_
                refine FL_assign (h := ?_)
                refine FL_nil (Qseq_normal ?_)
                refine FW_seq ?_
                refine FW_region ?_
                first | refine FL_val (Gives.field0 rfl) rfl ?_ | refine FL_val (Gives.field rfl) rfl ?_ | refine FL_val (Gives.fieldA rfl) rfl ?_
                refine FL_load H107 (hat := At0) (cs := doSCells l[i]) (h := ?_)
                refine FL_callS (bring_ok l[i].kind 7 hg.kind (by omega)) (h := ?_)
                refine FL_assign (h := ?_)
                refine FL_nil (Qseq_normal ?_)
                refine FW_cut (fun z : (Option Nat × Option Nat) × SM × DM × AM => [(0, I n), (2, .slice (some ad) l.length cl), (7, .pointer (some ⟨p, 0, none⟩)), (9, .pointer (some ⟨q, 0, none⟩)), (11, ptrO z.1.1), (13, ptrO z.1.2), (15, I i)])
                  (fun z w' => PS n (20 * i + 30) z.1.1 z.1.2 z.2.1 z.2.2.1 z.2.2.2 ∧ Sep w noB [openH z.1.1 p z.2.1, openRH z.1.2 q z.2.1, diskH p z.2.2.1, refA q z.2.2.2] w') ?_ ?_
                · skip
                  refine FW_block ?_
                  refine FW_seq ?_
                  refine FW_region ?_
                  refine FL_move (h := ?_)
                  refine FL_val (Gives.lss rfl rfl) rfl ?_
                  refine FL_move (h := ?_)
                  first | refine FL_splitP (t := 115) rfl (fun hs124 => ?_) (fun hs124 => ?_) | refine FL_split (t := 115) rfl (fun hs124 => ?_) (fun hs124 => ?_)
                  · skip
                    refine FL_on rfl rfl ?_
                    refine FL_move (h := ?_)
                    refine FL_on rfl rfl ?_
                    refine FL_val (Gives.neqNil rfl rfl) rfl ?_
                    refine FL_pickT (h := ?_)
                    refine FL_assign (h := ?_)
                    refine FL_nil (Qseq_normal ?_)
                    first | refine FW_condP rfl (fun hc129 => ?_) (fun hc129 => ?_) | refine FW_cond rfl (fun hc129 => ?_) (fun hc129 => ?_)
                    · skip
                      obtain ⟨t, rfl⟩ : ∃ t, y = some t := by cases y with | none => exact absurd hc129 (by simp) | some t => exact ⟨t, rfl⟩
                      obtain ⟨s, rfl⟩ : ∃ s, x = some s := by cases x with | none => exact absurd hP.xy (by simp) | some s => exact ⟨s, rfl⟩
                      have hok := hP.ok rfl
                      have H131 : Sep w noB [blk b16 (doSCells l[i]) 90, slotH s p m, slotR t q m, diskH p d, refA q a] w107 := H107
                      refine FW_seq ?_
                      refine FW_region ?_
                      refine FL_loadN H131 (us := doSCells l[i]) (hat := At0) (hu := rfl) (hk := rfl) (h := ?_)
                      refine FL_callN H131 (doBytes_ok l[i] hg.from_ hg.many) rfl rfl (fun v w134 _ H134 _ => ?_)
                      obtain ⟨Ab, cb, hvb, hcb, _⟩ := Sep.rowForm H134 At0
                      subst hvb
                      have hsz13 : d.size ≤ 13 := by rw [hP.size]; omega
                      refine FL_assign (h := ?_)
                      refine FL_nil (Qseq_normal ?_)
                      refine FW_seq ?_
                      refine FW_drawS rfl H134 (h := fun hok136 w138 H138 => ?_)
                      refine FGmove hok136 0 (h := ?_)
                      refine FGmove hok136 1 (h := ?_)
                      refine FGmove hok136 3 (h := ?_)
                      refine FGloadN hok136 4 H138 (us := doSCells l[i]) (hat := At1) (hu := rfl) (hk := rfl) (h := ?_)
                      have HQ := (H138.front4.front3.join0.front1)
                      obtain ⟨F0, Fq, hp0, hq0, hdj0, hS0, hput0⟩ := HQ.focus1 At0
                      refine FGcall hok136 2 [(4, false), (3, true)] rfl (by kernel_rfl) (saveS_ok (b := doB l[i]) hok (hds.mono (by omega)) hcb (rowAt_of_own hq0.1) (rowH_off hq0 hdj0) hp0) rfl (by kernel_rfl) (by kernel_rfl) (fun v w141 hv => ?_)
                      obtain ⟨rfl, hk1, F1, hq1, hs1⟩ := hv
                      have H141 := hput0 _ F1 _ hk1 hq1 hs1
                      refine ⟨(Stab_cons rfl rfl (Gives.loadN (us := doSCells l[i]) rfl (H141.obj At2) rfl rfl) rfl (Stab_pure (Stab_nil))), ?_⟩
                      refine FGcallN hok136 5 [(3, true)] H141 (doBytes_ok l[i] hg.from_ hg.many) (h := fun v w143 _ H143 _ => ⟨Stab_pure (Stab_nil), ?_⟩)
                      obtain ⟨Ab2, cb2, hvb2, hcb2, _⟩ := Sep.rowForm H143 At0
                      subst hvb2
                      have HQ := (H143.front5.front5).join0.front1
                      obtain ⟨F0, Fq, hp0, hq0, hdj0, hS0, hput0⟩ := HQ.focus1 At0
                      refine FGcall hok136 6 [] rfl rfl (saveR_ok (b := doB l[i]) hok hB (by omega) hsz13 hcb2 (rowAt_of_own hq0.1) (rowH_off hq0 hdj0) hp0) rfl (by kernel_rfl) (by kernel_rfl) (fun v w145 hv => ?_)
                      obtain ⟨a', rfl, hB', hk1, F1, hq1, hs1⟩ := hv
                      have H145 := hput0 _ F1 _ hk1 hq1 hs1
                      refine ⟨Stab_nil, ?_⟩
                      refine FGp hok136 7 rfl rfl (fun _ => Gives.assign rfl) (by kernel_rfl) ?_
                      refine FGp hok136 8 rfl rfl (fun _ => Gives.assign rfl) (by kernel_rfl) ?_
                      refine FG_end hok136 (by kernel_rfl) ?_
                      refine Qseq_normal ?_
                      refine FW_seq ?_
                      refine FW_seq ?_
                      refine FW_region ?_
                      refine FL_move (h := ?_)
                      refine FL_move (h := ?_)
                      refine FL_val (Gives.neq rfl rfl) rfl ?_
                      refine FL_move (h := ?_)
                      first | refine FL_splitP (t := 131) rfl (fun hs152 => ?_) (fun hs152 => ?_) | refine FL_split (t := 131) rfl (fun hs152 => ?_) (fun hs152 => ?_)
                      · skip
                        first | exact absurd rfl hs152 | exact (hs152 trivial).elim | exact absurd hs152 (by decide) | exact absurd hs152 (by simp) | omega --done
                      · skip
                        refine FL_on rfl rfl ?_
                        refine FL_move (h := ?_)
                        refine FL_on rfl rfl ?_
                        refine FL_loadN H145 (us := doSCells l[i]) (hat := At4) (hu := rfl) (hk := rfl) (h := ?_)
                        refine FL_on rfl rfl ?_
                        refine FL_callN H145 (doBytes_ok l[i] hg.from_ hg.many) rfl rfl (fun v w157 _ H157 _ => ?_)
                        obtain ⟨Ab3, cb3, hvb3, _⟩ := Sep.rowForm H157 At0
                        subst hvb3
                        refine FL_on rfl rfl ?_
                        refine FL_callS (eqSame (H157.rowAt At3) (H157.rowAt At0)) (h := ?_)
                        refine FL_on rfl rfl ?_
                        first | refine FL_val (Gives.notP rfl) rfl ?_ | refine FL_val (Gives.not rfl) rfl ?_
                        refine FL_pickF (h := ?_)
                        refine FL_nil (Qseq_normal ?_)
                        first | refine FW_condP rfl (fun hc161 => ?_) (fun hc161 => ?_) | refine FW_cond rfl (fun hc161 => ?_) (fun hc161 => ?_)
                        · skip
                          first | exact absurd rfl hc161 | exact (hc161 trivial).elim | exact absurd hc161 (by decide) | exact absurd hc161 (by simp) | omega --done
                        · skip
                          refine FW_skip (Qseq_normal ?_)
                          refine FW_seq ?_
                          refine FW_region ?_
                          refine FL_assign (h := ?_)
                          refine FL_nil (Qseq_normal ?_)
                          refine FW_block ?_
                          have HR : Sep w noB [rowH 5 1 (.slice Ab (doB l[i]).length cb) (doB l[i]).length (((doB l[i]).map fun u => (u.toNat : Int)).map (Value.int .u8)), star (slotR t q (save m d (doB l[i])).2.1) (refA q a'), star (slotH s p (save m d (doB l[i])).2.1) (diskH p (save m d (doB l[i])).2.2)] w157 := by
                            rw [List.map_map]
                            exact (show Sep w noB ([_, _, _] ++ [_, _, _]) _ from H157.front4.front3.front4).firsts
                          refine FW_loop' (fun x : Nat × List Int => [(0, I n), (2, .slice (some ad) l.length cl), (7, .pointer (some ⟨p, 0, none⟩)), (9, .pointer (some ⟨q, 0, none⟩)), (11, ptrO (some s)), (13, ptrO (some t)), (15, I i), (19, .slice Ab (doB l[i]).length cb), (22, I x.1)])
                            (fun x w' => x.1 ≤ (doB l[i]).length ∧ x.2.length = (doB l[i]).length ∧ Sep w noB [rowH 5 1 (.slice Ab (doB l[i]).length cb) (doB l[i]).length (x.2.map (Value.int .u8)), star (slotR t q (save m d (doB l[i])).2.1) (refA q a'), star (slotH s p (save m d (doB l[i])).2.1) (diskH p (save m d (doB l[i])).2.2)] w') (fun x _ => (doB l[i]).length - x.1) (0, (doB l[i]).map fun u => (u.toNat : Int))
                            ⟨rfl, rfl, rfl, rfl, rfl, rfl, rfl, rfl, rfl, trivial⟩ ⟨Nat.zero_le _, List.length_map _, HR⟩ (fun x τ w165 hI => ?_)
                          obtain ⟨k, zs⟩ := x
                          obtain ⟨hk, hzl, H165⟩ := hI
                          dsimp only at hk hzl H165
                          try simp only [upds, like, upd_ds]
                          refine FW_seq ?_
                          refine FW_seq ?_
                          refine FW_region ?_
                          refine FL_move (h := ?_)
                          refine FL_move (h := ?_)
                          refine FL_val (Gives.lenSlice rfl) rfl ?_
                          refine FL_val (Gives.lss rfl rfl) rfl ?_
                          refine FL_nil (Qseq_normal ?_)
                          first | refine FW_condP rfl (fun hc170 => ?_) (fun hc170 => ?_) | refine FW_cond rfl (fun hc170 => ?_) (fun hc170 => ?_)
                          · skip
                            have hkt : k < (doB l[i]).length := by omega
                            obtain ⟨g, cg, rest, hg2, hcg, hlg, hle, hmx, H172⟩ := Sep.rowOpen H165 At0 (by omega)
                            injection hg2 with hg1 _ hg3
                            subst hg1 hg3
                            have hkz : k < zs.length := by omega
                            have hget : (zs.map (Value.int .u8) ++ rest)[k]? = some (.int .u8 zs[k]) := by
                              rw [List.getElem?_append_left (by rw [List.length_map]; exact hkz), List.getElem?_map, List.getElem?_eq_getElem hkz]
                              rfl
                            refine FW_skip (Qseq_normal ?_)
                            refine FW_seq ?_
                            refine FW_block ?_
                            refine FW_region ?_
                            refine FL_move (h := ?_)
                            refine FL_move (h := ?_)
                            refine FL_move (h := ?_)
                            refine FL_move (h := ?_)
                            refine FL_val (Gives.idxB rfl rfl hkt) rfl ?_
                            refine FL_load H172 (hat := At0) (hv := hget) (h := ?_)
                            refine FL_val (Gives.xor rfl rfl) rfl ?_
                            refine FL_val (Gives.idxB rfl rfl hkt) rfl ?_
                            refine FL_store H172 (hy := by exact rfl) (hat := At0) (cs' := (zs.set k (bits .xor .u8 zs[k] 90)).map (Value.int .u8) ++ rest) (ho := by rw [List.length_append, List.length_map]; exact Nat.ble_eq_true_of_le (by omega)) (hs := by rw [List.map_set]; exact set_front (by rw [List.length_map]; exact hkz)) (h := ?_)
                            intro w182 H182
                            refine FL_nil (Qblk_normal (Qseq_normal ?_))
                            refine FW_region ?_
                            refine FL_move (h := ?_)
                            first | refine FL_val (Gives.addI rfl rfl rfl (by omega)) rfl ?_ | refine FL_val (Gives.add rfl rfl) rfl ?_
                            refine FL_assign (h := ?_)
                            refine FL_nil ?_
                            exact Qround_normal (k + 1, zs.set k (bits .xor .u8 zs[k] 90)) ⟨rfl, rfl, rfl, rfl, rfl, rfl, rfl, rfl, rfl, trivial⟩ ⟨by dsimp only; omega, by rw [List.length_set]; exact hzl, Sep.rowShut H182 At0 (by rw [List.length_append, List.length_map, List.length_set]; rw [List.length_append, List.length_map] at hcg; exact hcg) (by rw [List.length_map, List.length_set]; omega) hle hmx⟩ (by dsimp only; omega)
                          · skip
                            refine FW_exit (Qseq_exit (Qround_exit (Qblk_exit (Qblk_normal ?_))))
                            have h1 := H165.drop0.star0
                            have h2 := h1.front2.star0
                            exact Qcut_normal ((some s, some t), (save m d (doB l[i])).2.1, (save m d (doB l[i])).2.2, a') ⟨rfl, rfl, rfl, rfl, rfl, rfl, rfl, trivial⟩ ⟨⟨hB'.up (by omega), rfl, fun _ => save_ok hok, (save_size _ _ _).trans hP.size⟩, h2.front1.front2.front2⟩
                    · skip
                      refine FW_seq ?_
                      refine FW_region ?_
                      refine FL_move (h := ?_)
                      refine FL_val (Gives.eql rfl rfl) rfl ?_
                      refine FL_move (h := ?_)
                      first | refine FL_splitP (t := 155) rfl (fun hs191 => ?_) (fun hs191 => ?_) | refine FL_split (t := 155) rfl (fun hs191 => ?_) (fun hs191 => ?_)
                      · skip
                        refine FL_on rfl rfl ?_
                        refine FL_move (h := ?_)
                        refine FL_on rfl rfl ?_
                        refine FL_val (Gives.neqNil rfl rfl) rfl ?_
                        refine FL_pickT (h := ?_)
                        refine FL_assign (h := ?_)
                        refine FL_nil (Qseq_normal ?_)
                        first | refine FW_condP rfl (fun hc196 => ?_) (fun hc196 => ?_) | refine FW_cond rfl (fun hc196 => ?_) (fun hc196 => ?_)
                        · skip
                          obtain ⟨t, rfl⟩ : ∃ t, y = some t := by cases y with | none => exact absurd hc196 (by simp) | some t => exact ⟨t, rfl⟩
                          obtain ⟨s, rfl⟩ : ∃ s, x = some s := by cases x with | none => exact absurd hP.xy (by simp) | some s => exact ⟨s, rfl⟩
                          have hok := hP.ok rfl
                          have H198 : Sep w noB [blk b16 (doSCells l[i]) 90, slotH s p m, slotR t q m, diskH p d, refA q a] w107 := H107
                          refine FW_seq ?_
                          refine FW_region ?_
                          refine FL_move (h := ?_)
                          refine FL_callT (H198.front3.front2.join0) At0 (fun F' hp _ => loadS_ok hok hp) rfl rfl (fun v w201 _ H0 => ?_)
                          have H201 := Sep.star0 H0
                          obtain ⟨Av, cv, hv, hvl⟩ := Sep.preForm H201 At0
                          subst hv
                          have hll := load_len hok hB.sim.wf
                          refine FL_move (h := ?_)
                          refine FL_val (Gives.extract rfl rfl) rfl ?_
                          refine FL_val (Gives.extract rfl rfl) rfl ?_
                          refine FL_assign (h := ?_)
                          refine FL_assign (h := ?_)
                          refine FL_nil (Qseq_normal ?_)
                          refine FW_seq ?_
                          refine FW_region ?_
                          refine FL_move (h := ?_)
                          refine FL_callT (H201.front4.front4.join0) At0 (fun F' hp _ => loadR_ok hok hB (by omega) hp) rfl rfl (fun v w209 _ H0 => ?_)
                          have H209 := Sep.star0 H0
                          obtain ⟨Az, cz, hz, _⟩ := Sep.rowForm H209 At0
                          subst hz
                          refine FL_move (h := ?_)
                          refine FL_val (Gives.extract rfl rfl) rfl ?_
                          refine FL_val (Gives.extract rfl rfl) rfl ?_
                          refine FL_assign (h := ?_)
                          refine FL_assign (h := ?_)
                          refine FL_nil (Qseq_normal ?_)
                          refine FW_seq ?_
                          refine FW_seq ?_
                          refine FW_region ?_
                          refine FL_move (h := ?_)
                          refine FL_move (h := ?_)
                          refine FL_callS (eqSame (H209.preRow At2) (H209.rowAt At0)) (h := ?_)
                          first | refine FL_val (Gives.notP rfl) rfl ?_ | refine FL_val (Gives.not rfl) rfl ?_
                          refine FL_move (h := ?_)
                          first | refine FL_splitP (t := 173) rfl (fun hs220 => ?_) (fun hs220 => ?_) | refine FL_split (t := 173) rfl (fun hs220 => ?_) (fun hs220 => ?_)
                          · skip
                            first | exact absurd rfl hs220 | exact (hs220 trivial).elim | exact absurd hs220 (by decide) | exact absurd hs220 (by simp) | omega --done
                          · skip
                            refine FL_on rfl rfl ?_
                            refine FL_move (h := ?_)
                            refine FL_on rfl rfl ?_
                            refine FL_move (h := ?_)
                            refine FL_on rfl rfl ?_
                            refine FL_val (Gives.neq rfl rfl) rfl ?_
                            refine FL_pickF (h := ?_)
                            refine FL_nil (Qseq_normal ?_)
                            first | refine FW_condP rfl (fun hc226 => ?_) (fun hc226 => ?_) | refine FW_cond rfl (fun hc226 => ?_) (fun hc226 => ?_)
                            · skip
                              first | exact absurd rfl hc226 | exact (hc226 trivial).elim | exact absurd hc226 (by decide) | exact absurd hc226 (by simp) | omega --done
                            · skip
                              refine FW_skip (Qseq_normal ?_)
                              refine FW_seq ?_
                              refine FW_region ?_
                              refine FL_assign (h := ?_)
                              refine FL_nil (Qseq_normal ?_)
                              refine FW_block ?_
                              have HR : Sep w noB [preH 5 (.slice Av (load m d).1.length cv) (load m d).1.length (((load m d).1.map fun u => (u.toNat : Int)).map (Value.int .u8)), star (slotR t q (load m d).2.2) (refA q a), star (slotH s p (load m d).2.2) (diskH p d)] w209 := by
                                rw [List.map_map]
                                exact (show Sep w noB ([_, _, _] ++ [_, _]) _ from H209.front3.front2.front3).firsts
                              refine FW_loop' (fun x : Nat × List Int => [(0, I n), (2, .slice (some ad) l.length cl), (7, .pointer (some ⟨p, 0, none⟩)), (9, .pointer (some ⟨q, 0, none⟩)), (11, ptrO (some s)), (13, ptrO (some t)), (15, I i), (23, .slice Av (load m d).1.length cv), (27, I x.1)])
                                (fun x w' => x.1 ≤ (load m d).1.length ∧ x.2.length = (load m d).1.length ∧ Sep w noB [preH 5 (.slice Av (load m d).1.length cv) (load m d).1.length (x.2.map (Value.int .u8)), star (slotR t q (load m d).2.2) (refA q a), star (slotH s p (load m d).2.2) (diskH p d)] w') (fun x _ => (load m d).1.length - x.1) (0, (load m d).1.map fun u => (u.toNat : Int))
                                ⟨rfl, rfl, rfl, rfl, rfl, rfl, rfl, rfl, rfl, trivial⟩ ⟨Nat.zero_le _, List.length_map _, HR⟩ (fun x τ w230 hI => ?_)
                              obtain ⟨k, zs⟩ := x
                              obtain ⟨hk, hzl, H230⟩ := hI
                              dsimp only at hk hzl H230
                              try simp only [upds, like, upd_ds]
                              refine FW_seq ?_
                              refine FW_seq ?_
                              refine FW_region ?_
                              refine FL_move (h := ?_)
                              refine FL_move (h := ?_)
                              refine FL_val (Gives.lenSlice rfl) rfl ?_
                              refine FL_val (Gives.lss rfl rfl) rfl ?_
                              refine FL_nil (Qseq_normal ?_)
                              first | refine FW_condP rfl (fun hc235 => ?_) (fun hc235 => ?_) | refine FW_cond rfl (fun hc235 => ?_) (fun hc235 => ?_)
                              · skip
                                have hkt : k < (load m d).1.length := by omega
                                obtain ⟨g, cg, rest, hg2, hlg, hle, H237⟩ := Sep.preOpen H230 (by omega)
                                injection hg2 with hg1 _ hg3
                                subst hg1 hg3
                                have hkz : k < zs.length := by omega
                                have hget : (zs.map (Value.int .u8) ++ rest)[k]? = some (.int .u8 zs[k]) := by
                                  rw [List.getElem?_append_left (by rw [List.length_map]; exact hkz), List.getElem?_map, List.getElem?_eq_getElem hkz]
                                  rfl
                                refine FW_skip (Qseq_normal ?_)
                                refine FW_seq ?_
                                refine FW_block ?_
                                refine FW_region ?_
                                refine FL_move (h := ?_)
                                refine FL_move (h := ?_)
                                refine FL_move (h := ?_)
                                refine FL_move (h := ?_)
                                refine FL_val (Gives.idxB rfl rfl hkt) rfl ?_
                                refine FL_load H237 (hat := At0) (hv := hget) (h := ?_)
                                refine FL_val (Gives.xor rfl rfl) rfl ?_
                                refine FL_val (Gives.idxB rfl rfl hkt) rfl ?_
                                refine FL_store H237 (hy := by exact rfl) (hat := At0) (cs' := (zs.set k (bits .xor .u8 zs[k] 90)).map (Value.int .u8) ++ rest) (ho := by rw [List.length_append, List.length_map]; exact Nat.ble_eq_true_of_le (by omega)) (hs := by rw [List.map_set]; exact set_front (by rw [List.length_map]; exact hkz)) (h := ?_)
                                intro w247 H247
                                refine FL_nil (Qblk_normal (Qseq_normal ?_))
                                refine FW_region ?_
                                refine FL_move (h := ?_)
                                first | refine FL_val (Gives.addI rfl rfl rfl (by omega)) rfl ?_ | refine FL_val (Gives.add rfl rfl) rfl ?_
                                refine FL_assign (h := ?_)
                                refine FL_nil ?_
                                exact Qround_normal (k + 1, zs.set k (bits .xor .u8 zs[k] 90)) ⟨rfl, rfl, rfl, rfl, rfl, rfl, rfl, rfl, rfl, trivial⟩ ⟨by dsimp only; omega, by rw [List.length_set]; exact hzl, Sep.preShut H247 (by rw [List.length_map, List.length_set]; exact hzl) hle⟩ (by dsimp only; omega)
                              · skip
                                refine FW_exit (Qseq_exit (Qround_exit (Qblk_exit (Qblk_normal ?_))))
                                have h1 := H230.drop0.star0
                                have h2 := h1.front2.star0
                                exact Qcut_normal ((some s, some t), (load m d).2.2, d, a) ⟨rfl, rfl, rfl, rfl, rfl, rfl, rfl, trivial⟩ ⟨⟨hB.up (by omega), rfl, fun _ => load_ok hok, hP.size⟩, h2.front1.front2.front2⟩
                        · skip
                          refine FW_seq ?_
                          refine FW_region ?_
                          refine FL_move (h := ?_)
                          refine FL_val (Gives.eql rfl rfl) rfl ?_
                          refine FL_assign (h := ?_)
                          refine FL_nil (Qseq_normal ?_)
                          first | refine FW_condP rfl (fun hc256 => ?_) (fun hc256 => ?_) | refine FW_cond rfl (fun hc256 => ?_) (fun hc256 => ?_)
                          · skip
                            refine FW_seq ?_
                            refine FW_region ?_
                            refine FL_move (h := ?_)
                            first | refine FL_val (Gives.field0 rfl) rfl ?_ | refine FL_val (Gives.field rfl) rfl ?_ | refine FL_val (Gives.fieldA rfl) rfl ?_
                            refine FL_load H107 (hat := At0) (cs := doSCells l[i]) (h := ?_)
                            refine FL_callS (bring_ok l[i].many 12 hg.many (by omega)) (h := ?_)
                            refine FL_move (h := ?_)
                            obtain ⟨F0, hp0, hS0, hput0⟩ := H107.focus At3
                            refine FL_call (fail_ok (ops := l[i].many % 12) (c := l[i].ck) (keep := ks) (A := l[i].ak) (by have := hds.2.2; omega) (by omega) (hrk.keepS H107.kept fun _ _ _ => id) (Off.of (F := F0) (S := noB) (fun _ _ _ => id) hrk (fun b hb => hS0 b hb) (by decide)) hp0) rfl rfl (fun v w263 hv => ?_)
                            obtain ⟨rfl, hk0, F1, hq0, hs0⟩ := hv
                            have H263 := hput0 _ F1 _ hk0 hq0 hs0
                            refine FL_nil (Qseq_normal ?_)
                            refine FW_region ?_
                            refine FL_move (h := ?_)
                            first | refine FL_val (Gives.field0 rfl) rfl ?_ | refine FL_val (Gives.field rfl) rfl ?_ | refine FL_val (Gives.fieldA rfl) rfl ?_
                            refine FL_load H263 (hat := At0) (cs := doSCells l[i]) (h := ?_)
                            refine FL_callS (bring_ok l[i].many 12 hg.many (by omega)) (h := ?_)
                            refine FL_move (h := ?_)
                            obtain ⟨F0, hp0, hS0, hput0⟩ := H263.focus At4
                            refine FL_call (failR_ok (ops := l[i].many % 12) (c := l[i].ck) (keep := ks) (A := l[i].ak) (by omega) (hrk.keepS H263.kept fun _ _ _ => id) (Off.of (F := F0) (S := noB) (fun _ _ _ => id) hrk (fun b hb => hS0 b hb) (by decide)) hp0) rfl rfl (fun v w270 hv => ?_)
                            obtain ⟨rfl, hk0, F1, hq0, hs0⟩ := hv
                            have H270 := hput0 _ F1 _ hk0 hq0 hs0
                            refine FL_nil (Qblk_normal ?_)
                            exact Qcut_normal ((x, y), m, d.failAt (l[i].many % 12) ks, a.fail (l[i].many % 12) ks) ⟨rfl, rfl, rfl, rfl, rfl, rfl, rfl, trivial⟩ ⟨hP.disk ((hB.fail (by omega) (by unfold fits; omega) (by omega)).up (by omega)) (failAt_size _ _ _), H270.drop0⟩
                          · skip
                            refine FW_seq ?_
                            refine FW_region ?_
                            refine FL_move (h := ?_)
                            refine FL_val (Gives.eql rfl rfl) rfl ?_
                            refine FL_assign (h := ?_)
                            refine FL_nil (Qseq_normal ?_)
                            first | refine FW_condP rfl (fun hc275 => ?_) (fun hc275 => ?_) | refine FW_cond rfl (fun hc275 => ?_) (fun hc275 => ?_)
                            · skip
                              refine FW_seq ?_
                              refine FW_region ?_
                              refine FL_move (h := ?_)
                              refine FL_move (h := ?_)
                              skip
                              obtain ⟨F0, hp0, hS0, hput0⟩ := H107.focus At3
                              refine FL_call (crash_ok (c := l[i].ck) (keep := ks) (A := l[i].ak) (by have := hds.1; omega) (by omega) (hrk.keepS H107.kept fun _ _ _ => id) (Off.of (F := F0) (S := noB) (fun _ _ _ => id) hrk (fun b hb => hS0 b hb) (by decide)) hp0) rfl rfl (fun v w279 hv => ?_)
                              obtain ⟨rfl, hk0, F1, hq0, hs0⟩ := hv
                              have H279 := hput0 _ F1 _ hk0 hq0 hs0
                              refine FL_nil (Qseq_normal ?_)
                              refine FW_region ?_
                              refine FL_move (h := ?_)
                              refine FL_move (h := ?_)
                              obtain ⟨F0, hp0, hS0, hput0⟩ := H279.focus At4
                              refine FL_call (crashR_ok (c := l[i].ck) (keep := ks) (A := l[i].ak) (by have := hsm.opn; omega) (by omega) (hrk.keepS H279.kept fun _ _ _ => id) (Off.of (F := F0) (S := noB) (fun _ _ _ => id) hrk (fun b hb => hS0 b hb) (by decide)) hp0) rfl rfl (fun v w283 hv => ?_)
                              obtain ⟨rfl, hk0, F1, hq0, hs0⟩ := hv
                              have H283 := hput0 _ F1 _ hk0 hq0 hs0
                              refine FL_nil (Qblk_normal ?_)
                              exact Qcut_normal ((x, y), m, d.crash ks, a.crash ks) ⟨rfl, rfl, rfl, rfl, rfl, rfl, rfl, trivial⟩ ⟨hP.disk ((hB.crash ks).up (by omega)) (crash_size _ _), H283.drop0⟩
                            · skip
                              refine FW_seq ?_
                              refine FW_region ?_
                              refine FL_move (h := ?_)
                              refine FL_val (Gives.eql rfl rfl) rfl ?_
                              refine FL_assign (h := ?_)
                              refine FL_nil (Qseq_normal ?_)
                              first | refine FW_condP rfl (fun hc288 => ?_) (fun hc288 => ?_) | refine FW_cond rfl (fun hc288 => ?_) (fun hc288 => ?_)
                              · skip
                                refine FW_seq ?_
                                refine FW_region ?_
                                refine FL_move (h := ?_)
                                skip
                                obtain ⟨F0, hp0, hS0, hput0⟩ := H107.focus At3
                                refine FL_call (boot_ok hp0) rfl rfl (fun v w291 hv => ?_)
                                obtain ⟨rfl, hk0, F1, hq0, hs0⟩ := hv
                                have H291 := hput0 _ F1 _ hk0 hq0 hs0
                                refine FL_nil (Qseq_normal ?_)
                                refine FW_seq ?_
                                refine FW_region ?_
                                refine FL_move (h := ?_)
                                have hBb := hB.boot
                                obtain ⟨F0, hp0, hS0, hput0⟩ := H291.focus At4
                                refine FL_call (bootR_ok hp0) rfl rfl (fun v w294 hv => ?_)
                                obtain ⟨rfl, hk0, F1, hq0, hs0⟩ := hv
                                have H294 := hput0 _ F1 _ hk0 hq0 hs0
                                refine FL_nil (Qseq_normal ?_)
                                refine FW_seq ?_
                                refine FW_region ?_
                                refine FL_move (h := ?_)
                                obtain ⟨F3, hp3, _⟩ := H294.focus At3
                                refine FL_callN H294 (q := fun x => openH x p (openS d.boot).2) (val := fun x : Option Nat => .tuple #[ptrO x, I (openS d.boot).1]) (φ := fun x => x.isSome = decide ((openS d.boot).1 = 0)) (openS_ok hp3) rfl rfl (fun x3 w297 hx3 H297 _ => ?_)
                                refine FL_move (h := ?_)
                                refine FL_val (Gives.extract rfl rfl) rfl ?_
                                refine FL_val (Gives.extract rfl rfl) rfl ?_
                                refine FL_assign (h := ?_)
                                refine FL_assign (h := ?_)
                                refine FL_nil (Qseq_normal ?_)
                                refine FW_seq ?_
                                refine FW_region ?_
                                refine FL_move (h := ?_)
                                obtain ⟨F4, hp4, _⟩ := H297.focus At5
                                refine FL_callN H297 (q := fun x => openRH x q (openS d.boot).2) (val := fun x : Option Nat => .tuple #[ptrO x, I (openS d.boot).1]) (φ := fun x => x.isSome = decide ((openS d.boot).1 = 0)) (openR_ok hBb (by omega) hp4) rfl rfl (fun y3 w305 hy3 H305 _ => ?_)
                                refine FL_move (h := ?_)
                                refine FL_val (Gives.extract rfl rfl) rfl ?_
                                refine FL_val (Gives.extract rfl rfl) rfl ?_
                                refine FL_assign (h := ?_)
                                refine FL_assign (h := ?_)
                                refine FL_nil (Qseq_normal ?_)
                                refine FW_seq ?_
                                refine FW_region ?_
                                refine FL_move (h := ?_)
                                refine FL_move (h := ?_)
                                refine FL_val (Gives.neq rfl rfl) rfl ?_
                                refine FL_nil (Qseq_normal ?_)
                                first | refine FW_condP rfl (fun hc314 => ?_) (fun hc314 => ?_) | refine FW_cond rfl (fun hc314 => ?_) (fun hc314 => ?_)
                                · skip
                                  first | exact absurd rfl hc314 | exact (hc314 trivial).elim | exact absurd hc314 (by decide) | exact absurd hc314 (by simp) | omega --done
                                · skip
                                  refine FW_skip (Qblk_normal ?_)
                                  exact Qcut_normal ((x3, y3), (openS d.boot).2, d.boot, a.boot) ⟨rfl, rfl, rfl, rfl, rfl, rfl, rfl, trivial⟩ ⟨⟨hBb.up (by omega), hx3.trans hy3.symm, fun h => openS_okS (by rw [hx3] at h; exact of_decide_eq_true h), hP.size⟩, (show Sep w noB ([_, _, _, _] ++ [_, _, _]) _ from H305.front6.front6.front2.front3).firsts⟩
                              · skip
                                refine FW_seq ?_
                                refine FW_region ?_
                                refine FL_move (h := ?_)
                                refine FL_val (Gives.eql rfl rfl) rfl ?_
                                refine FL_assign (h := ?_)
                                refine FL_nil (Qseq_normal ?_)
                                first | refine FW_condP rfl (fun hc320 => ?_) (fun hc320 => ?_) | refine FW_cond rfl (fun hc320 => ?_) (fun hc320 => ?_)
                                · skip
                                  refine FW_seq ?_
                                  refine FW_region ?_
                                  first | refine FL_val (Gives.field0 rfl) rfl ?_ | refine FL_val (Gives.field rfl) rfl ?_ | refine FL_val (Gives.fieldA rfl) rfl ?_
                                  refine FL_load H107 (hat := At0) (cs := doSCells l[i]) (h := ?_)
                                  refine FL_move (h := ?_)
                                  refine FL_callS (bring_ok l[i].from_ n hg.from_ (by omega)) (h := ?_)
                                  refine FL_assign (h := ?_)
                                  refine FL_nil (Qseq_normal ?_)
                                  refine FW_seq ?_
                                  refine FW_region ?_
                                  refine FL_loadN H107 (us := doSCells l[i]) (hat := At0) (hu := rfl) (hk := rfl) (h := ?_)
                                  refine FL_callN H107 (doBytes_ok l[i] hg.from_ hg.many) rfl rfl (fun v w328 _ H328 _ => ?_)
                                  obtain ⟨Ab, cb, hvb, hcb, _⟩ := Sep.rowForm H328 At0
                                  subst hvb
                                  obtain ⟨b14, hb14⟩ : ∃ b14, b14 = (doB l[i]).take (min (doB l[i]).length 14) := ⟨_, rfl⟩
                                  have hbl : min (doB l[i]).length 14 = b14.length := by rw [hb14, List.length_take]; omega
                                  have hbt : ((doB l[i]).map B).take (b14.length * 1) = b14.map B := by rw [Nat.mul_one, ← List.map_take, ← hbl, ← hb14]
                                  have hbw := hB.write (by omega) (l[i].from_ % n) b14
                                  refine FL_assign (h := ?_)
                                  refine FL_nil (Qseq_normal ?_)
                                  refine FW_seq ?_
                                  refine FW_region ?_
                                  refine FL_move (h := ?_)
                                  refine FL_move (h := ?_)
                                  refine FL_val (Gives.lenSlice rfl) rfl ?_
                                  refine FL_val (gives_minN (k := 14) hbl rfl rfl rfl) rfl ?_
                                  refine FL_val (Gives.sliceTo rfl rfl (by omega)) rfl ?_
                                  refine FL_assign (h := ?_)
                                  refine FL_nil (Qseq_normal ?_)
                                  refine FW_seq ?_
                                  refine FW_region ?_
                                  refine FL_move (h := ?_)
                                  refine FL_move (h := ?_)
                                  refine FL_move (h := ?_)
                                  obtain ⟨F0, Fq, hp0, hq0, hdj0, hS0, hput0⟩ := H328.focus1 At3
                                  have hrow0 : RowAt w328 Ab b14.length 1 (b14.map B) := by
                                    have h1 := (rowAt_of_own hq0.1).take (k := b14.length) (by omega)
                                    rw [hbt] at h1
                                    exact h1
                                  refine FL_call (write_ok (b := b14) (c := cb) (at_ := l[i].from_ % n) (by have := hds.1; omega) (by have := hds.2.1; omega) (by have := hds.2.2; unfold fits; omega) hrow0 (off_le (rowH_off hq0 hdj0) (by omega)) hp0) rfl rfl (fun v w340 hv => ?_)
                                  obtain ⟨rfl, hk0, F1, hq1, hs0⟩ := hv
                                  have H340 := hput0 _ F1 _ hk0 hq1 hs0
                                  refine FL_move (h := ?_)
                                  refine FL_move (h := ?_)
                                  refine FL_move (h := ?_)
                                  obtain ⟨F0, Fq, hp0, hq0, hdj0, hS0, hput0⟩ := H340.focus1 At4
                                  have hrow0 : RowAt w340 Ab b14.length 1 (b14.map B) := by
                                    have h1 := (rowAt_of_own hq0.1).take (k := b14.length) (by omega)
                                    rw [hbt] at h1
                                    exact h1
                                  refine FL_call (writeR_ok (b := b14) (c := cb) (at_ := l[i].from_ % n) hsm hrow0 (off_le (rowH_off hq0 hdj0) (by omega)) hp0) rfl rfl (fun v w345 hv => ?_)
                                  obtain ⟨rfl, hk0, F1, hq1, hs0⟩ := hv
                                  have H345 := hput0 _ F1 _ hk0 hq1 hs0
                                  refine FL_val (Gives.neq rfl rfl) rfl ?_
                                  refine FL_nil (Qseq_normal ?_)
                                  first | refine FW_condP rfl (fun hc347 => ?_) (fun hc347 => ?_) | refine FW_cond rfl (fun hc347 => ?_) (fun hc347 => ?_)
                                  · skip
                                    exact absurd hbw.1 hc347 --done
                                  · skip
                                    refine FW_skip (Qblk_normal ?_)
                                    exact Qcut_normal ((x, y), m, (d.write (l[i].from_ % n) b14).2, (a.write (l[i].from_ % n) b14).2) ⟨rfl, rfl, rfl, rfl, rfl, rfl, rfl, trivial⟩ ⟨hP.disk (hbw.2.up (by omega)) (write_size _ _ _), H345.drop0.drop0⟩
                                · skip
                                  refine FW_skip (Qblk_normal ?_)
                                  exact Qcut_normal ((x, y), m, d, a) ⟨rfl, rfl, rfl, rfl, rfl, rfl, rfl, trivial⟩ ⟨hP.up (by omega), H107.drop0⟩
                      · skip
                        refine FL_off rfl rfl rfl ?_
                        refine FL_off rfl rfl rfl ?_
                        refine FL_pickF (h := ?_)
                        refine FL_assign (h := ?_)
                        refine FL_nil (Qseq_normal ?_)
                        refine FW_cond_false rfl ?_
                        refine FW_seq ?_
                        refine FW_region ?_
                        refine FL_move (h := ?_)
                        refine FL_val (Gives.eql rfl rfl) rfl ?_
                        refine FL_assign (h := ?_)
                        refine FL_nil (Qseq_normal ?_)
                        first | refine FW_condP rfl (fun hc356 => ?_) (fun hc356 => ?_) | refine FW_cond rfl (fun hc356 => ?_) (fun hc356 => ?_)
                        · skip
                          refine FW_seq ?_
                          refine FW_region ?_
                          refine FL_move (h := ?_)
                          first | refine FL_val (Gives.field0 rfl) rfl ?_ | refine FL_val (Gives.field rfl) rfl ?_ | refine FL_val (Gives.fieldA rfl) rfl ?_
                          refine FL_load H107 (hat := At0) (cs := doSCells l[i]) (h := ?_)
                          refine FL_callS (bring_ok l[i].many 12 hg.many (by omega)) (h := ?_)
                          refine FL_move (h := ?_)
                          obtain ⟨F0, hp0, hS0, hput0⟩ := H107.focus At3
                          refine FL_call (fail_ok (ops := l[i].many % 12) (c := l[i].ck) (keep := ks) (A := l[i].ak) (by have := hds.2.2; omega) (by omega) (hrk.keepS H107.kept fun _ _ _ => id) (Off.of (F := F0) (S := noB) (fun _ _ _ => id) hrk (fun b hb => hS0 b hb) (by decide)) hp0) rfl rfl (fun v w363 hv => ?_)
                          obtain ⟨rfl, hk0, F1, hq0, hs0⟩ := hv
                          have H363 := hput0 _ F1 _ hk0 hq0 hs0
                          refine FL_nil (Qseq_normal ?_)
                          refine FW_region ?_
                          refine FL_move (h := ?_)
                          first | refine FL_val (Gives.field0 rfl) rfl ?_ | refine FL_val (Gives.field rfl) rfl ?_ | refine FL_val (Gives.fieldA rfl) rfl ?_
                          refine FL_load H363 (hat := At0) (cs := doSCells l[i]) (h := ?_)
                          refine FL_callS (bring_ok l[i].many 12 hg.many (by omega)) (h := ?_)
                          refine FL_move (h := ?_)
                          obtain ⟨F0, hp0, hS0, hput0⟩ := H363.focus At4
                          refine FL_call (failR_ok (ops := l[i].many % 12) (c := l[i].ck) (keep := ks) (A := l[i].ak) (by omega) (hrk.keepS H363.kept fun _ _ _ => id) (Off.of (F := F0) (S := noB) (fun _ _ _ => id) hrk (fun b hb => hS0 b hb) (by decide)) hp0) rfl rfl (fun v w370 hv => ?_)
                          obtain ⟨rfl, hk0, F1, hq0, hs0⟩ := hv
                          have H370 := hput0 _ F1 _ hk0 hq0 hs0
                          refine FL_nil (Qblk_normal ?_)
                          exact Qcut_normal ((x, y), m, d.failAt (l[i].many % 12) ks, a.fail (l[i].many % 12) ks) ⟨rfl, rfl, rfl, rfl, rfl, rfl, rfl, trivial⟩ ⟨hP.disk ((hB.fail (by omega) (by unfold fits; omega) (by omega)).up (by omega)) (failAt_size _ _ _), H370.drop0⟩
                        · skip
                          refine FW_seq ?_
                          refine FW_region ?_
                          refine FL_move (h := ?_)
                          refine FL_val (Gives.eql rfl rfl) rfl ?_
                          refine FL_assign (h := ?_)
                          refine FL_nil (Qseq_normal ?_)
                          first | refine FW_condP rfl (fun hc375 => ?_) (fun hc375 => ?_) | refine FW_cond rfl (fun hc375 => ?_) (fun hc375 => ?_)
                          · skip
                            refine FW_seq ?_
                            refine FW_region ?_
                            refine FL_move (h := ?_)
                            refine FL_move (h := ?_)
                            skip
                            obtain ⟨F0, hp0, hS0, hput0⟩ := H107.focus At3
                            refine FL_call (crash_ok (c := l[i].ck) (keep := ks) (A := l[i].ak) (by have := hds.1; omega) (by omega) (hrk.keepS H107.kept fun _ _ _ => id) (Off.of (F := F0) (S := noB) (fun _ _ _ => id) hrk (fun b hb => hS0 b hb) (by decide)) hp0) rfl rfl (fun v w379 hv => ?_)
                            obtain ⟨rfl, hk0, F1, hq0, hs0⟩ := hv
                            have H379 := hput0 _ F1 _ hk0 hq0 hs0
                            refine FL_nil (Qseq_normal ?_)
                            refine FW_region ?_
                            refine FL_move (h := ?_)
                            refine FL_move (h := ?_)
                            obtain ⟨F0, hp0, hS0, hput0⟩ := H379.focus At4
                            refine FL_call (crashR_ok (c := l[i].ck) (keep := ks) (A := l[i].ak) (by have := hsm.opn; omega) (by omega) (hrk.keepS H379.kept fun _ _ _ => id) (Off.of (F := F0) (S := noB) (fun _ _ _ => id) hrk (fun b hb => hS0 b hb) (by decide)) hp0) rfl rfl (fun v w383 hv => ?_)
                            obtain ⟨rfl, hk0, F1, hq0, hs0⟩ := hv
                            have H383 := hput0 _ F1 _ hk0 hq0 hs0
                            refine FL_nil (Qblk_normal ?_)
                            exact Qcut_normal ((x, y), m, d.crash ks, a.crash ks) ⟨rfl, rfl, rfl, rfl, rfl, rfl, rfl, trivial⟩ ⟨hP.disk ((hB.crash ks).up (by omega)) (crash_size _ _), H383.drop0⟩
                          · skip
                            refine FW_seq ?_
                            refine FW_region ?_
                            refine FL_move (h := ?_)
                            refine FL_val (Gives.eql rfl rfl) rfl ?_
                            refine FL_assign (h := ?_)
                            refine FL_nil (Qseq_normal ?_)
                            first | refine FW_condP rfl (fun hc388 => ?_) (fun hc388 => ?_) | refine FW_cond rfl (fun hc388 => ?_) (fun hc388 => ?_)
                            · skip
                              refine FW_seq ?_
                              refine FW_region ?_
                              refine FL_move (h := ?_)
                              skip
                              obtain ⟨F0, hp0, hS0, hput0⟩ := H107.focus At3
                              refine FL_call (boot_ok hp0) rfl rfl (fun v w391 hv => ?_)
                              obtain ⟨rfl, hk0, F1, hq0, hs0⟩ := hv
                              have H391 := hput0 _ F1 _ hk0 hq0 hs0
                              refine FL_nil (Qseq_normal ?_)
                              refine FW_seq ?_
                              refine FW_region ?_
                              refine FL_move (h := ?_)
                              have hBb := hB.boot
                              obtain ⟨F0, hp0, hS0, hput0⟩ := H391.focus At4
                              refine FL_call (bootR_ok hp0) rfl rfl (fun v w394 hv => ?_)
                              obtain ⟨rfl, hk0, F1, hq0, hs0⟩ := hv
                              have H394 := hput0 _ F1 _ hk0 hq0 hs0
                              refine FL_nil (Qseq_normal ?_)
                              refine FW_seq ?_
                              refine FW_region ?_
                              refine FL_move (h := ?_)
                              obtain ⟨F3, hp3, _⟩ := H394.focus At3
                              refine FL_callN H394 (q := fun x => openH x p (openS d.boot).2) (val := fun x : Option Nat => .tuple #[ptrO x, I (openS d.boot).1]) (φ := fun x => x.isSome = decide ((openS d.boot).1 = 0)) (openS_ok hp3) rfl rfl (fun x3 w397 hx3 H397 _ => ?_)
                              refine FL_move (h := ?_)
                              refine FL_val (Gives.extract rfl rfl) rfl ?_
                              refine FL_val (Gives.extract rfl rfl) rfl ?_
                              refine FL_assign (h := ?_)
                              refine FL_assign (h := ?_)
                              refine FL_nil (Qseq_normal ?_)
                              refine FW_seq ?_
                              refine FW_region ?_
                              refine FL_move (h := ?_)
                              obtain ⟨F4, hp4, _⟩ := H397.focus At5
                              refine FL_callN H397 (q := fun x => openRH x q (openS d.boot).2) (val := fun x : Option Nat => .tuple #[ptrO x, I (openS d.boot).1]) (φ := fun x => x.isSome = decide ((openS d.boot).1 = 0)) (openR_ok hBb (by omega) hp4) rfl rfl (fun y3 w405 hy3 H405 _ => ?_)
                              refine FL_move (h := ?_)
                              refine FL_val (Gives.extract rfl rfl) rfl ?_
                              refine FL_val (Gives.extract rfl rfl) rfl ?_
                              refine FL_assign (h := ?_)
                              refine FL_assign (h := ?_)
                              refine FL_nil (Qseq_normal ?_)
                              refine FW_seq ?_
                              refine FW_region ?_
                              refine FL_move (h := ?_)
                              refine FL_move (h := ?_)
                              refine FL_val (Gives.neq rfl rfl) rfl ?_
                              refine FL_nil (Qseq_normal ?_)
                              first | refine FW_condP rfl (fun hc414 => ?_) (fun hc414 => ?_) | refine FW_cond rfl (fun hc414 => ?_) (fun hc414 => ?_)
                              · skip
                                first | exact absurd rfl hc414 | exact (hc414 trivial).elim | exact absurd hc414 (by decide) | exact absurd hc414 (by simp) | omega --done
                              · skip
                                refine FW_skip (Qblk_normal ?_)
                                exact Qcut_normal ((x3, y3), (openS d.boot).2, d.boot, a.boot) ⟨rfl, rfl, rfl, rfl, rfl, rfl, rfl, trivial⟩ ⟨⟨hBb.up (by omega), hx3.trans hy3.symm, fun h => openS_okS (by rw [hx3] at h; exact of_decide_eq_true h), hP.size⟩, (show Sep w noB ([_, _, _, _] ++ [_, _, _]) _ from H405.front6.front6.front2.front3).firsts⟩
                            · skip
                              refine FW_seq ?_
                              refine FW_region ?_
                              refine FL_move (h := ?_)
                              refine FL_val (Gives.eql rfl rfl) rfl ?_
                              refine FL_assign (h := ?_)
                              refine FL_nil (Qseq_normal ?_)
                              first | refine FW_condP rfl (fun hc420 => ?_) (fun hc420 => ?_) | refine FW_cond rfl (fun hc420 => ?_) (fun hc420 => ?_)
                              · skip
                                refine FW_seq ?_
                                refine FW_region ?_
                                first | refine FL_val (Gives.field0 rfl) rfl ?_ | refine FL_val (Gives.field rfl) rfl ?_ | refine FL_val (Gives.fieldA rfl) rfl ?_
                                refine FL_load H107 (hat := At0) (cs := doSCells l[i]) (h := ?_)
                                refine FL_move (h := ?_)
                                refine FL_callS (bring_ok l[i].from_ n hg.from_ (by omega)) (h := ?_)
                                refine FL_assign (h := ?_)
                                refine FL_nil (Qseq_normal ?_)
                                refine FW_seq ?_
                                refine FW_region ?_
                                refine FL_loadN H107 (us := doSCells l[i]) (hat := At0) (hu := rfl) (hk := rfl) (h := ?_)
                                refine FL_callN H107 (doBytes_ok l[i] hg.from_ hg.many) rfl rfl (fun v w428 _ H428 _ => ?_)
                                obtain ⟨Ab, cb, hvb, hcb, _⟩ := Sep.rowForm H428 At0
                                subst hvb
                                obtain ⟨b14, hb14⟩ : ∃ b14, b14 = (doB l[i]).take (min (doB l[i]).length 14) := ⟨_, rfl⟩
                                have hbl : min (doB l[i]).length 14 = b14.length := by rw [hb14, List.length_take]; omega
                                have hbt : ((doB l[i]).map B).take (b14.length * 1) = b14.map B := by rw [Nat.mul_one, ← List.map_take, ← hbl, ← hb14]
                                have hbw := hB.write (by omega) (l[i].from_ % n) b14
                                refine FL_assign (h := ?_)
                                refine FL_nil (Qseq_normal ?_)
                                refine FW_seq ?_
                                refine FW_region ?_
                                refine FL_move (h := ?_)
                                refine FL_move (h := ?_)
                                refine FL_val (Gives.lenSlice rfl) rfl ?_
                                refine FL_val (gives_minN (k := 14) hbl rfl rfl rfl) rfl ?_
                                refine FL_val (Gives.sliceTo rfl rfl (by omega)) rfl ?_
                                refine FL_assign (h := ?_)
                                refine FL_nil (Qseq_normal ?_)
                                refine FW_seq ?_
                                refine FW_region ?_
                                refine FL_move (h := ?_)
                                refine FL_move (h := ?_)
                                refine FL_move (h := ?_)
                                obtain ⟨F0, Fq, hp0, hq0, hdj0, hS0, hput0⟩ := H428.focus1 At3
                                have hrow0 : RowAt w428 Ab b14.length 1 (b14.map B) := by
                                  have h1 := (rowAt_of_own hq0.1).take (k := b14.length) (by omega)
                                  rw [hbt] at h1
                                  exact h1
                                refine FL_call (write_ok (b := b14) (c := cb) (at_ := l[i].from_ % n) (by have := hds.1; omega) (by have := hds.2.1; omega) (by have := hds.2.2; unfold fits; omega) hrow0 (off_le (rowH_off hq0 hdj0) (by omega)) hp0) rfl rfl (fun v w440 hv => ?_)
                                obtain ⟨rfl, hk0, F1, hq1, hs0⟩ := hv
                                have H440 := hput0 _ F1 _ hk0 hq1 hs0
                                refine FL_move (h := ?_)
                                refine FL_move (h := ?_)
                                refine FL_move (h := ?_)
                                obtain ⟨F0, Fq, hp0, hq0, hdj0, hS0, hput0⟩ := H440.focus1 At4
                                have hrow0 : RowAt w440 Ab b14.length 1 (b14.map B) := by
                                  have h1 := (rowAt_of_own hq0.1).take (k := b14.length) (by omega)
                                  rw [hbt] at h1
                                  exact h1
                                refine FL_call (writeR_ok (b := b14) (c := cb) (at_ := l[i].from_ % n) hsm hrow0 (off_le (rowH_off hq0 hdj0) (by omega)) hp0) rfl rfl (fun v w445 hv => ?_)
                                obtain ⟨rfl, hk0, F1, hq1, hs0⟩ := hv
                                have H445 := hput0 _ F1 _ hk0 hq1 hs0
                                refine FL_val (Gives.neq rfl rfl) rfl ?_
                                refine FL_nil (Qseq_normal ?_)
                                first | refine FW_condP rfl (fun hc447 => ?_) (fun hc447 => ?_) | refine FW_cond rfl (fun hc447 => ?_) (fun hc447 => ?_)
                                · skip
                                  exact absurd hbw.1 hc447 --done
                                · skip
                                  refine FW_skip (Qblk_normal ?_)
                                  exact Qcut_normal ((x, y), m, (d.write (l[i].from_ % n) b14).2, (a.write (l[i].from_ % n) b14).2) ⟨rfl, rfl, rfl, rfl, rfl, rfl, rfl, trivial⟩ ⟨hP.disk (hbw.2.up (by omega)) (write_size _ _ _), H445.drop0.drop0⟩
                              · skip
                                refine FW_skip (Qblk_normal ?_)
                                exact Qcut_normal ((x, y), m, d, a) ⟨rfl, rfl, rfl, rfl, rfl, rfl, rfl, trivial⟩ ⟨hP.up (by omega), H107.drop0⟩
                  · skip
                    refine FL_off rfl rfl rfl ?_
                    refine FL_off rfl rfl rfl ?_
                    refine FL_pickF (h := ?_)
                    refine FL_assign (h := ?_)
                    refine FL_nil (Qseq_normal ?_)
                    refine FW_cond_false rfl ?_
                    refine FW_seq ?_
                    refine FW_region ?_
                    refine FL_move (h := ?_)
                    refine FL_val (Gives.eql rfl rfl) rfl ?_
                    refine FL_move (h := ?_)
                    first | refine FL_splitP (t := 155) rfl (fun hs456 => ?_) (fun hs456 => ?_) | refine FL_split (t := 155) rfl (fun hs456 => ?_) (fun hs456 => ?_)
                    · skip
                      refine FL_on rfl rfl ?_
                      refine FL_move (h := ?_)
                      refine FL_on rfl rfl ?_
                      refine FL_val (Gives.neqNil rfl rfl) rfl ?_
                      refine FL_pickT (h := ?_)
                      refine FL_assign (h := ?_)
                      refine FL_nil (Qseq_normal ?_)
                      first | refine FW_condP rfl (fun hc461 => ?_) (fun hc461 => ?_) | refine FW_cond rfl (fun hc461 => ?_) (fun hc461 => ?_)
                      · skip
                        obtain ⟨t, rfl⟩ : ∃ t, y = some t := by cases y with | none => exact absurd hc461 (by simp) | some t => exact ⟨t, rfl⟩
                        obtain ⟨s, rfl⟩ : ∃ s, x = some s := by cases x with | none => exact absurd hP.xy (by simp) | some s => exact ⟨s, rfl⟩
                        have hok := hP.ok rfl
                        have H463 : Sep w noB [blk b16 (doSCells l[i]) 90, slotH s p m, slotR t q m, diskH p d, refA q a] w107 := H107
                        refine FW_seq ?_
                        refine FW_region ?_
                        refine FL_move (h := ?_)
                        refine FL_callT (H463.front3.front2.join0) At0 (fun F' hp _ => loadS_ok hok hp) rfl rfl (fun v w466 _ H0 => ?_)
                        have H466 := Sep.star0 H0
                        obtain ⟨Av, cv, hv, hvl⟩ := Sep.preForm H466 At0
                        subst hv
                        have hll := load_len hok hB.sim.wf
                        refine FL_move (h := ?_)
                        refine FL_val (Gives.extract rfl rfl) rfl ?_
                        refine FL_val (Gives.extract rfl rfl) rfl ?_
                        refine FL_assign (h := ?_)
                        refine FL_assign (h := ?_)
                        refine FL_nil (Qseq_normal ?_)
                        refine FW_seq ?_
                        refine FW_region ?_
                        refine FL_move (h := ?_)
                        refine FL_callT (H466.front4.front4.join0) At0 (fun F' hp _ => loadR_ok hok hB (by omega) hp) rfl rfl (fun v w474 _ H0 => ?_)
                        have H474 := Sep.star0 H0
                        obtain ⟨Az, cz, hz, _⟩ := Sep.rowForm H474 At0
                        subst hz
                        refine FL_move (h := ?_)
                        refine FL_val (Gives.extract rfl rfl) rfl ?_
                        refine FL_val (Gives.extract rfl rfl) rfl ?_
                        refine FL_assign (h := ?_)
                        refine FL_assign (h := ?_)
                        refine FL_nil (Qseq_normal ?_)
                        refine FW_seq ?_
                        refine FW_seq ?_
                        refine FW_region ?_
                        refine FL_move (h := ?_)
                        refine FL_move (h := ?_)
                        refine FL_callS (eqSame (H474.preRow At2) (H474.rowAt At0)) (h := ?_)
                        first | refine FL_val (Gives.notP rfl) rfl ?_ | refine FL_val (Gives.not rfl) rfl ?_
                        refine FL_move (h := ?_)
                        first | refine FL_splitP (t := 173) rfl (fun hs485 => ?_) (fun hs485 => ?_) | refine FL_split (t := 173) rfl (fun hs485 => ?_) (fun hs485 => ?_)
                        · skip
                          first | exact absurd rfl hs485 | exact (hs485 trivial).elim | exact absurd hs485 (by decide) | exact absurd hs485 (by simp) | omega --done
                        · skip
                          refine FL_on rfl rfl ?_
                          refine FL_move (h := ?_)
                          refine FL_on rfl rfl ?_
                          refine FL_move (h := ?_)
                          refine FL_on rfl rfl ?_
                          refine FL_val (Gives.neq rfl rfl) rfl ?_
                          refine FL_pickF (h := ?_)
                          refine FL_nil (Qseq_normal ?_)
                          first | refine FW_condP rfl (fun hc491 => ?_) (fun hc491 => ?_) | refine FW_cond rfl (fun hc491 => ?_) (fun hc491 => ?_)
                          · skip
                            first | exact absurd rfl hc491 | exact (hc491 trivial).elim | exact absurd hc491 (by decide) | exact absurd hc491 (by simp) | omega --done
                          · skip
                            refine FW_skip (Qseq_normal ?_)
                            refine FW_seq ?_
                            refine FW_region ?_
                            refine FL_assign (h := ?_)
                            refine FL_nil (Qseq_normal ?_)
                            refine FW_block ?_
                            have HR : Sep w noB [preH 5 (.slice Av (load m d).1.length cv) (load m d).1.length (((load m d).1.map fun u => (u.toNat : Int)).map (Value.int .u8)), star (slotR t q (load m d).2.2) (refA q a), star (slotH s p (load m d).2.2) (diskH p d)] w474 := by
                              rw [List.map_map]
                              exact (show Sep w noB ([_, _, _] ++ [_, _]) _ from H474.front3.front2.front3).firsts
                            refine FW_loop' (fun x : Nat × List Int => [(0, I n), (2, .slice (some ad) l.length cl), (7, .pointer (some ⟨p, 0, none⟩)), (9, .pointer (some ⟨q, 0, none⟩)), (11, ptrO (some s)), (13, ptrO (some t)), (15, I i), (23, .slice Av (load m d).1.length cv), (27, I x.1)])
                              (fun x w' => x.1 ≤ (load m d).1.length ∧ x.2.length = (load m d).1.length ∧ Sep w noB [preH 5 (.slice Av (load m d).1.length cv) (load m d).1.length (x.2.map (Value.int .u8)), star (slotR t q (load m d).2.2) (refA q a), star (slotH s p (load m d).2.2) (diskH p d)] w') (fun x _ => (load m d).1.length - x.1) (0, (load m d).1.map fun u => (u.toNat : Int))
                              ⟨rfl, rfl, rfl, rfl, rfl, rfl, rfl, rfl, rfl, trivial⟩ ⟨Nat.zero_le _, List.length_map _, HR⟩ (fun x τ w495 hI => ?_)
                            obtain ⟨k, zs⟩ := x
                            obtain ⟨hk, hzl, H495⟩ := hI
                            dsimp only at hk hzl H495
                            try simp only [upds, like, upd_ds]
                            refine FW_seq ?_
                            refine FW_seq ?_
                            refine FW_region ?_
                            refine FL_move (h := ?_)
                            refine FL_move (h := ?_)
                            refine FL_val (Gives.lenSlice rfl) rfl ?_
                            refine FL_val (Gives.lss rfl rfl) rfl ?_
                            refine FL_nil (Qseq_normal ?_)
                            first | refine FW_condP rfl (fun hc500 => ?_) (fun hc500 => ?_) | refine FW_cond rfl (fun hc500 => ?_) (fun hc500 => ?_)
                            · skip
                              have hkt : k < (load m d).1.length := by omega
                              obtain ⟨g, cg, rest, hg2, hlg, hle, H502⟩ := Sep.preOpen H495 (by omega)
                              injection hg2 with hg1 _ hg3
                              subst hg1 hg3
                              have hkz : k < zs.length := by omega
                              have hget : (zs.map (Value.int .u8) ++ rest)[k]? = some (.int .u8 zs[k]) := by
                                rw [List.getElem?_append_left (by rw [List.length_map]; exact hkz), List.getElem?_map, List.getElem?_eq_getElem hkz]
                                rfl
                              refine FW_skip (Qseq_normal ?_)
                              refine FW_seq ?_
                              refine FW_block ?_
                              refine FW_region ?_
                              refine FL_move (h := ?_)
                              refine FL_move (h := ?_)
                              refine FL_move (h := ?_)
                              refine FL_move (h := ?_)
                              refine FL_val (Gives.idxB rfl rfl hkt) rfl ?_
                              refine FL_load H502 (hat := At0) (hv := hget) (h := ?_)
                              refine FL_val (Gives.xor rfl rfl) rfl ?_
                              refine FL_val (Gives.idxB rfl rfl hkt) rfl ?_
                              refine FL_store H502 (hy := by exact rfl) (hat := At0) (cs' := (zs.set k (bits .xor .u8 zs[k] 90)).map (Value.int .u8) ++ rest) (ho := by rw [List.length_append, List.length_map]; exact Nat.ble_eq_true_of_le (by omega)) (hs := by rw [List.map_set]; exact set_front (by rw [List.length_map]; exact hkz)) (h := ?_)
                              intro w512 H512
                              refine FL_nil (Qblk_normal (Qseq_normal ?_))
                              refine FW_region ?_
                              refine FL_move (h := ?_)
                              first | refine FL_val (Gives.addI rfl rfl rfl (by omega)) rfl ?_ | refine FL_val (Gives.add rfl rfl) rfl ?_
                              refine FL_assign (h := ?_)
                              refine FL_nil ?_
                              exact Qround_normal (k + 1, zs.set k (bits .xor .u8 zs[k] 90)) ⟨rfl, rfl, rfl, rfl, rfl, rfl, rfl, rfl, rfl, trivial⟩ ⟨by dsimp only; omega, by rw [List.length_set]; exact hzl, Sep.preShut H512 (by rw [List.length_map, List.length_set]; exact hzl) hle⟩ (by dsimp only; omega)
                            · skip
                              refine FW_exit (Qseq_exit (Qround_exit (Qblk_exit (Qblk_normal ?_))))
                              have h1 := H495.drop0.star0
                              have h2 := h1.front2.star0
                              exact Qcut_normal ((some s, some t), (load m d).2.2, d, a) ⟨rfl, rfl, rfl, rfl, rfl, rfl, rfl, trivial⟩ ⟨⟨hB.up (by omega), rfl, fun _ => load_ok hok, hP.size⟩, h2.front1.front2.front2⟩
                      · skip
                        refine FW_seq ?_
                        refine FW_region ?_
                        refine FL_move (h := ?_)
                        refine FL_val (Gives.eql rfl rfl) rfl ?_
                        refine FL_assign (h := ?_)
                        refine FL_nil (Qseq_normal ?_)
                        first | refine FW_condP rfl (fun hc521 => ?_) (fun hc521 => ?_) | refine FW_cond rfl (fun hc521 => ?_) (fun hc521 => ?_)
                        · skip
                          refine FW_seq ?_
                          refine FW_region ?_
                          refine FL_move (h := ?_)
                          first | refine FL_val (Gives.field0 rfl) rfl ?_ | refine FL_val (Gives.field rfl) rfl ?_ | refine FL_val (Gives.fieldA rfl) rfl ?_
                          refine FL_load H107 (hat := At0) (cs := doSCells l[i]) (h := ?_)
                          refine FL_callS (bring_ok l[i].many 12 hg.many (by omega)) (h := ?_)
                          refine FL_move (h := ?_)
                          obtain ⟨F0, hp0, hS0, hput0⟩ := H107.focus At3
                          refine FL_call (fail_ok (ops := l[i].many % 12) (c := l[i].ck) (keep := ks) (A := l[i].ak) (by have := hds.2.2; omega) (by omega) (hrk.keepS H107.kept fun _ _ _ => id) (Off.of (F := F0) (S := noB) (fun _ _ _ => id) hrk (fun b hb => hS0 b hb) (by decide)) hp0) rfl rfl (fun v w528 hv => ?_)
                          obtain ⟨rfl, hk0, F1, hq0, hs0⟩ := hv
                          have H528 := hput0 _ F1 _ hk0 hq0 hs0
                          refine FL_nil (Qseq_normal ?_)
                          refine FW_region ?_
                          refine FL_move (h := ?_)
                          first | refine FL_val (Gives.field0 rfl) rfl ?_ | refine FL_val (Gives.field rfl) rfl ?_ | refine FL_val (Gives.fieldA rfl) rfl ?_
                          refine FL_load H528 (hat := At0) (cs := doSCells l[i]) (h := ?_)
                          refine FL_callS (bring_ok l[i].many 12 hg.many (by omega)) (h := ?_)
                          refine FL_move (h := ?_)
                          obtain ⟨F0, hp0, hS0, hput0⟩ := H528.focus At4
                          refine FL_call (failR_ok (ops := l[i].many % 12) (c := l[i].ck) (keep := ks) (A := l[i].ak) (by omega) (hrk.keepS H528.kept fun _ _ _ => id) (Off.of (F := F0) (S := noB) (fun _ _ _ => id) hrk (fun b hb => hS0 b hb) (by decide)) hp0) rfl rfl (fun v w535 hv => ?_)
                          obtain ⟨rfl, hk0, F1, hq0, hs0⟩ := hv
                          have H535 := hput0 _ F1 _ hk0 hq0 hs0
                          refine FL_nil (Qblk_normal ?_)
                          exact Qcut_normal ((x, y), m, d.failAt (l[i].many % 12) ks, a.fail (l[i].many % 12) ks) ⟨rfl, rfl, rfl, rfl, rfl, rfl, rfl, trivial⟩ ⟨hP.disk ((hB.fail (by omega) (by unfold fits; omega) (by omega)).up (by omega)) (failAt_size _ _ _), H535.drop0⟩
                        · skip
                          refine FW_seq ?_
                          refine FW_region ?_
                          refine FL_move (h := ?_)
                          refine FL_val (Gives.eql rfl rfl) rfl ?_
                          refine FL_assign (h := ?_)
                          refine FL_nil (Qseq_normal ?_)
                          first | refine FW_condP rfl (fun hc540 => ?_) (fun hc540 => ?_) | refine FW_cond rfl (fun hc540 => ?_) (fun hc540 => ?_)
                          · skip
                            refine FW_seq ?_
                            refine FW_region ?_
                            refine FL_move (h := ?_)
                            refine FL_move (h := ?_)
                            skip
                            obtain ⟨F0, hp0, hS0, hput0⟩ := H107.focus At3
                            refine FL_call (crash_ok (c := l[i].ck) (keep := ks) (A := l[i].ak) (by have := hds.1; omega) (by omega) (hrk.keepS H107.kept fun _ _ _ => id) (Off.of (F := F0) (S := noB) (fun _ _ _ => id) hrk (fun b hb => hS0 b hb) (by decide)) hp0) rfl rfl (fun v w544 hv => ?_)
                            obtain ⟨rfl, hk0, F1, hq0, hs0⟩ := hv
                            have H544 := hput0 _ F1 _ hk0 hq0 hs0
                            refine FL_nil (Qseq_normal ?_)
                            refine FW_region ?_
                            refine FL_move (h := ?_)
                            refine FL_move (h := ?_)
                            obtain ⟨F0, hp0, hS0, hput0⟩ := H544.focus At4
                            refine FL_call (crashR_ok (c := l[i].ck) (keep := ks) (A := l[i].ak) (by have := hsm.opn; omega) (by omega) (hrk.keepS H544.kept fun _ _ _ => id) (Off.of (F := F0) (S := noB) (fun _ _ _ => id) hrk (fun b hb => hS0 b hb) (by decide)) hp0) rfl rfl (fun v w548 hv => ?_)
                            obtain ⟨rfl, hk0, F1, hq0, hs0⟩ := hv
                            have H548 := hput0 _ F1 _ hk0 hq0 hs0
                            refine FL_nil (Qblk_normal ?_)
                            exact Qcut_normal ((x, y), m, d.crash ks, a.crash ks) ⟨rfl, rfl, rfl, rfl, rfl, rfl, rfl, trivial⟩ ⟨hP.disk ((hB.crash ks).up (by omega)) (crash_size _ _), H548.drop0⟩
                          · skip
                            refine FW_seq ?_
                            refine FW_region ?_
                            refine FL_move (h := ?_)
                            refine FL_val (Gives.eql rfl rfl) rfl ?_
                            refine FL_assign (h := ?_)
                            refine FL_nil (Qseq_normal ?_)
                            first | refine FW_condP rfl (fun hc553 => ?_) (fun hc553 => ?_) | refine FW_cond rfl (fun hc553 => ?_) (fun hc553 => ?_)
                            · skip
                              refine FW_seq ?_
                              refine FW_region ?_
                              refine FL_move (h := ?_)
                              skip
                              obtain ⟨F0, hp0, hS0, hput0⟩ := H107.focus At3
                              refine FL_call (boot_ok hp0) rfl rfl (fun v w556 hv => ?_)
                              obtain ⟨rfl, hk0, F1, hq0, hs0⟩ := hv
                              have H556 := hput0 _ F1 _ hk0 hq0 hs0
                              refine FL_nil (Qseq_normal ?_)
                              refine FW_seq ?_
                              refine FW_region ?_
                              refine FL_move (h := ?_)
                              have hBb := hB.boot
                              obtain ⟨F0, hp0, hS0, hput0⟩ := H556.focus At4
                              refine FL_call (bootR_ok hp0) rfl rfl (fun v w559 hv => ?_)
                              obtain ⟨rfl, hk0, F1, hq0, hs0⟩ := hv
                              have H559 := hput0 _ F1 _ hk0 hq0 hs0
                              refine FL_nil (Qseq_normal ?_)
                              refine FW_seq ?_
                              refine FW_region ?_
                              refine FL_move (h := ?_)
                              obtain ⟨F3, hp3, _⟩ := H559.focus At3
                              refine FL_callN H559 (q := fun x => openH x p (openS d.boot).2) (val := fun x : Option Nat => .tuple #[ptrO x, I (openS d.boot).1]) (φ := fun x => x.isSome = decide ((openS d.boot).1 = 0)) (openS_ok hp3) rfl rfl (fun x3 w562 hx3 H562 _ => ?_)
                              refine FL_move (h := ?_)
                              refine FL_val (Gives.extract rfl rfl) rfl ?_
                              refine FL_val (Gives.extract rfl rfl) rfl ?_
                              refine FL_assign (h := ?_)
                              refine FL_assign (h := ?_)
                              refine FL_nil (Qseq_normal ?_)
                              refine FW_seq ?_
                              refine FW_region ?_
                              refine FL_move (h := ?_)
                              obtain ⟨F4, hp4, _⟩ := H562.focus At5
                              refine FL_callN H562 (q := fun x => openRH x q (openS d.boot).2) (val := fun x : Option Nat => .tuple #[ptrO x, I (openS d.boot).1]) (φ := fun x => x.isSome = decide ((openS d.boot).1 = 0)) (openR_ok hBb (by omega) hp4) rfl rfl (fun y3 w570 hy3 H570 _ => ?_)
                              refine FL_move (h := ?_)
                              refine FL_val (Gives.extract rfl rfl) rfl ?_
                              refine FL_val (Gives.extract rfl rfl) rfl ?_
                              refine FL_assign (h := ?_)
                              refine FL_assign (h := ?_)
                              refine FL_nil (Qseq_normal ?_)
                              refine FW_seq ?_
                              refine FW_region ?_
                              refine FL_move (h := ?_)
                              refine FL_move (h := ?_)
                              refine FL_val (Gives.neq rfl rfl) rfl ?_
                              refine FL_nil (Qseq_normal ?_)
                              first | refine FW_condP rfl (fun hc579 => ?_) (fun hc579 => ?_) | refine FW_cond rfl (fun hc579 => ?_) (fun hc579 => ?_)
                              · skip
                                first | exact absurd rfl hc579 | exact (hc579 trivial).elim | exact absurd hc579 (by decide) | exact absurd hc579 (by simp) | omega --done
                              · skip
                                refine FW_skip (Qblk_normal ?_)
                                exact Qcut_normal ((x3, y3), (openS d.boot).2, d.boot, a.boot) ⟨rfl, rfl, rfl, rfl, rfl, rfl, rfl, trivial⟩ ⟨⟨hBb.up (by omega), hx3.trans hy3.symm, fun h => openS_okS (by rw [hx3] at h; exact of_decide_eq_true h), hP.size⟩, (show Sep w noB ([_, _, _, _] ++ [_, _, _]) _ from H570.front6.front6.front2.front3).firsts⟩
                            · skip
                              refine FW_seq ?_
                              refine FW_region ?_
                              refine FL_move (h := ?_)
                              refine FL_val (Gives.eql rfl rfl) rfl ?_
                              refine FL_assign (h := ?_)
                              refine FL_nil (Qseq_normal ?_)
                              first | refine FW_condP rfl (fun hc585 => ?_) (fun hc585 => ?_) | refine FW_cond rfl (fun hc585 => ?_) (fun hc585 => ?_)
                              · skip
                                refine FW_seq ?_
                                refine FW_region ?_
                                first | refine FL_val (Gives.field0 rfl) rfl ?_ | refine FL_val (Gives.field rfl) rfl ?_ | refine FL_val (Gives.fieldA rfl) rfl ?_
                                refine FL_load H107 (hat := At0) (cs := doSCells l[i]) (h := ?_)
                                refine FL_move (h := ?_)
                                refine FL_callS (bring_ok l[i].from_ n hg.from_ (by omega)) (h := ?_)
                                refine FL_assign (h := ?_)
                                refine FL_nil (Qseq_normal ?_)
                                refine FW_seq ?_
                                refine FW_region ?_
                                refine FL_loadN H107 (us := doSCells l[i]) (hat := At0) (hu := rfl) (hk := rfl) (h := ?_)
                                refine FL_callN H107 (doBytes_ok l[i] hg.from_ hg.many) rfl rfl (fun v w593 _ H593 _ => ?_)
                                obtain ⟨Ab, cb, hvb, hcb, _⟩ := Sep.rowForm H593 At0
                                subst hvb
                                obtain ⟨b14, hb14⟩ : ∃ b14, b14 = (doB l[i]).take (min (doB l[i]).length 14) := ⟨_, rfl⟩
                                have hbl : min (doB l[i]).length 14 = b14.length := by rw [hb14, List.length_take]; omega
                                have hbt : ((doB l[i]).map B).take (b14.length * 1) = b14.map B := by rw [Nat.mul_one, ← List.map_take, ← hbl, ← hb14]
                                have hbw := hB.write (by omega) (l[i].from_ % n) b14
                                refine FL_assign (h := ?_)
                                refine FL_nil (Qseq_normal ?_)
                                refine FW_seq ?_
                                refine FW_region ?_
                                refine FL_move (h := ?_)
                                refine FL_move (h := ?_)
                                refine FL_val (Gives.lenSlice rfl) rfl ?_
                                refine FL_val (gives_minN (k := 14) hbl rfl rfl rfl) rfl ?_
                                refine FL_val (Gives.sliceTo rfl rfl (by omega)) rfl ?_
                                refine FL_assign (h := ?_)
                                refine FL_nil (Qseq_normal ?_)
                                refine FW_seq ?_
                                refine FW_region ?_
                                refine FL_move (h := ?_)
                                refine FL_move (h := ?_)
                                refine FL_move (h := ?_)
                                obtain ⟨F0, Fq, hp0, hq0, hdj0, hS0, hput0⟩ := H593.focus1 At3
                                have hrow0 : RowAt w593 Ab b14.length 1 (b14.map B) := by
                                  have h1 := (rowAt_of_own hq0.1).take (k := b14.length) (by omega)
                                  rw [hbt] at h1
                                  exact h1
                                refine FL_call (write_ok (b := b14) (c := cb) (at_ := l[i].from_ % n) (by have := hds.1; omega) (by have := hds.2.1; omega) (by have := hds.2.2; unfold fits; omega) hrow0 (off_le (rowH_off hq0 hdj0) (by omega)) hp0) rfl rfl (fun v w605 hv => ?_)
                                obtain ⟨rfl, hk0, F1, hq1, hs0⟩ := hv
                                have H605 := hput0 _ F1 _ hk0 hq1 hs0
                                refine FL_move (h := ?_)
                                refine FL_move (h := ?_)
                                refine FL_move (h := ?_)
                                obtain ⟨F0, Fq, hp0, hq0, hdj0, hS0, hput0⟩ := H605.focus1 At4
                                have hrow0 : RowAt w605 Ab b14.length 1 (b14.map B) := by
                                  have h1 := (rowAt_of_own hq0.1).take (k := b14.length) (by omega)
                                  rw [hbt] at h1
                                  exact h1
                                refine FL_call (writeR_ok (b := b14) (c := cb) (at_ := l[i].from_ % n) hsm hrow0 (off_le (rowH_off hq0 hdj0) (by omega)) hp0) rfl rfl (fun v w610 hv => ?_)
                                obtain ⟨rfl, hk0, F1, hq1, hs0⟩ := hv
                                have H610 := hput0 _ F1 _ hk0 hq1 hs0
                                refine FL_val (Gives.neq rfl rfl) rfl ?_
                                refine FL_nil (Qseq_normal ?_)
                                first | refine FW_condP rfl (fun hc612 => ?_) (fun hc612 => ?_) | refine FW_cond rfl (fun hc612 => ?_) (fun hc612 => ?_)
                                · skip
                                  exact absurd hbw.1 hc612 --done
                                · skip
                                  refine FW_skip (Qblk_normal ?_)
                                  exact Qcut_normal ((x, y), m, (d.write (l[i].from_ % n) b14).2, (a.write (l[i].from_ % n) b14).2) ⟨rfl, rfl, rfl, rfl, rfl, rfl, rfl, trivial⟩ ⟨hP.disk (hbw.2.up (by omega)) (write_size _ _ _), H610.drop0.drop0⟩
                              · skip
                                refine FW_skip (Qblk_normal ?_)
                                exact Qcut_normal ((x, y), m, d, a) ⟨rfl, rfl, rfl, rfl, rfl, rfl, rfl, trivial⟩ ⟨hP.up (by omega), H107.drop0⟩
                    · skip
                      refine FL_off rfl rfl rfl ?_
                      refine FL_off rfl rfl rfl ?_
                      refine FL_pickF (h := ?_)
                      refine FL_assign (h := ?_)
                      refine FL_nil (Qseq_normal ?_)
                      refine FW_cond_false rfl ?_
                      refine FW_seq ?_
                      refine FW_region ?_
                      refine FL_move (h := ?_)
                      refine FL_val (Gives.eql rfl rfl) rfl ?_
                      refine FL_assign (h := ?_)
                      refine FL_nil (Qseq_normal ?_)
                      first | refine FW_condP rfl (fun hc621 => ?_) (fun hc621 => ?_) | refine FW_cond rfl (fun hc621 => ?_) (fun hc621 => ?_)
                      · skip
                        refine FW_seq ?_
                        refine FW_region ?_
                        refine FL_move (h := ?_)
                        first | refine FL_val (Gives.field0 rfl) rfl ?_ | refine FL_val (Gives.field rfl) rfl ?_ | refine FL_val (Gives.fieldA rfl) rfl ?_
                        refine FL_load H107 (hat := At0) (cs := doSCells l[i]) (h := ?_)
                        refine FL_callS (bring_ok l[i].many 12 hg.many (by omega)) (h := ?_)
                        refine FL_move (h := ?_)
                        obtain ⟨F0, hp0, hS0, hput0⟩ := H107.focus At3
                        refine FL_call (fail_ok (ops := l[i].many % 12) (c := l[i].ck) (keep := ks) (A := l[i].ak) (by have := hds.2.2; omega) (by omega) (hrk.keepS H107.kept fun _ _ _ => id) (Off.of (F := F0) (S := noB) (fun _ _ _ => id) hrk (fun b hb => hS0 b hb) (by decide)) hp0) rfl rfl (fun v w628 hv => ?_)
                        obtain ⟨rfl, hk0, F1, hq0, hs0⟩ := hv
                        have H628 := hput0 _ F1 _ hk0 hq0 hs0
                        refine FL_nil (Qseq_normal ?_)
                        refine FW_region ?_
                        refine FL_move (h := ?_)
                        first | refine FL_val (Gives.field0 rfl) rfl ?_ | refine FL_val (Gives.field rfl) rfl ?_ | refine FL_val (Gives.fieldA rfl) rfl ?_
                        refine FL_load H628 (hat := At0) (cs := doSCells l[i]) (h := ?_)
                        refine FL_callS (bring_ok l[i].many 12 hg.many (by omega)) (h := ?_)
                        refine FL_move (h := ?_)
                        obtain ⟨F0, hp0, hS0, hput0⟩ := H628.focus At4
                        refine FL_call (failR_ok (ops := l[i].many % 12) (c := l[i].ck) (keep := ks) (A := l[i].ak) (by omega) (hrk.keepS H628.kept fun _ _ _ => id) (Off.of (F := F0) (S := noB) (fun _ _ _ => id) hrk (fun b hb => hS0 b hb) (by decide)) hp0) rfl rfl (fun v w635 hv => ?_)
                        obtain ⟨rfl, hk0, F1, hq0, hs0⟩ := hv
                        have H635 := hput0 _ F1 _ hk0 hq0 hs0
                        refine FL_nil (Qblk_normal ?_)
                        exact Qcut_normal ((x, y), m, d.failAt (l[i].many % 12) ks, a.fail (l[i].many % 12) ks) ⟨rfl, rfl, rfl, rfl, rfl, rfl, rfl, trivial⟩ ⟨hP.disk ((hB.fail (by omega) (by unfold fits; omega) (by omega)).up (by omega)) (failAt_size _ _ _), H635.drop0⟩
                      · skip
                        refine FW_seq ?_
                        refine FW_region ?_
                        refine FL_move (h := ?_)
                        refine FL_val (Gives.eql rfl rfl) rfl ?_
                        refine FL_assign (h := ?_)
                        refine FL_nil (Qseq_normal ?_)
                        first | refine FW_condP rfl (fun hc640 => ?_) (fun hc640 => ?_) | refine FW_cond rfl (fun hc640 => ?_) (fun hc640 => ?_)
                        · skip
                          refine FW_seq ?_
                          refine FW_region ?_
                          refine FL_move (h := ?_)
                          refine FL_move (h := ?_)
                          skip
                          obtain ⟨F0, hp0, hS0, hput0⟩ := H107.focus At3
                          refine FL_call (crash_ok (c := l[i].ck) (keep := ks) (A := l[i].ak) (by have := hds.1; omega) (by omega) (hrk.keepS H107.kept fun _ _ _ => id) (Off.of (F := F0) (S := noB) (fun _ _ _ => id) hrk (fun b hb => hS0 b hb) (by decide)) hp0) rfl rfl (fun v w644 hv => ?_)
                          obtain ⟨rfl, hk0, F1, hq0, hs0⟩ := hv
                          have H644 := hput0 _ F1 _ hk0 hq0 hs0
                          refine FL_nil (Qseq_normal ?_)
                          refine FW_region ?_
                          refine FL_move (h := ?_)
                          refine FL_move (h := ?_)
                          obtain ⟨F0, hp0, hS0, hput0⟩ := H644.focus At4
                          refine FL_call (crashR_ok (c := l[i].ck) (keep := ks) (A := l[i].ak) (by have := hsm.opn; omega) (by omega) (hrk.keepS H644.kept fun _ _ _ => id) (Off.of (F := F0) (S := noB) (fun _ _ _ => id) hrk (fun b hb => hS0 b hb) (by decide)) hp0) rfl rfl (fun v w648 hv => ?_)
                          obtain ⟨rfl, hk0, F1, hq0, hs0⟩ := hv
                          have H648 := hput0 _ F1 _ hk0 hq0 hs0
                          refine FL_nil (Qblk_normal ?_)
                          exact Qcut_normal ((x, y), m, d.crash ks, a.crash ks) ⟨rfl, rfl, rfl, rfl, rfl, rfl, rfl, trivial⟩ ⟨hP.disk ((hB.crash ks).up (by omega)) (crash_size _ _), H648.drop0⟩
                        · skip
                          refine FW_seq ?_
                          refine FW_region ?_
                          refine FL_move (h := ?_)
                          refine FL_val (Gives.eql rfl rfl) rfl ?_
                          refine FL_assign (h := ?_)
                          refine FL_nil (Qseq_normal ?_)
                          first | refine FW_condP rfl (fun hc653 => ?_) (fun hc653 => ?_) | refine FW_cond rfl (fun hc653 => ?_) (fun hc653 => ?_)
                          · skip
                            refine FW_seq ?_
                            refine FW_region ?_
                            refine FL_move (h := ?_)
                            skip
                            obtain ⟨F0, hp0, hS0, hput0⟩ := H107.focus At3
                            refine FL_call (boot_ok hp0) rfl rfl (fun v w656 hv => ?_)
                            obtain ⟨rfl, hk0, F1, hq0, hs0⟩ := hv
                            have H656 := hput0 _ F1 _ hk0 hq0 hs0
                            refine FL_nil (Qseq_normal ?_)
                            refine FW_seq ?_
                            refine FW_region ?_
                            refine FL_move (h := ?_)
                            have hBb := hB.boot
                            obtain ⟨F0, hp0, hS0, hput0⟩ := H656.focus At4
                            refine FL_call (bootR_ok hp0) rfl rfl (fun v w659 hv => ?_)
                            obtain ⟨rfl, hk0, F1, hq0, hs0⟩ := hv
                            have H659 := hput0 _ F1 _ hk0 hq0 hs0
                            refine FL_nil (Qseq_normal ?_)
                            refine FW_seq ?_
                            refine FW_region ?_
                            refine FL_move (h := ?_)
                            obtain ⟨F3, hp3, _⟩ := H659.focus At3
                            refine FL_callN H659 (q := fun x => openH x p (openS d.boot).2) (val := fun x : Option Nat => .tuple #[ptrO x, I (openS d.boot).1]) (φ := fun x => x.isSome = decide ((openS d.boot).1 = 0)) (openS_ok hp3) rfl rfl (fun x3 w662 hx3 H662 _ => ?_)
                            refine FL_move (h := ?_)
                            refine FL_val (Gives.extract rfl rfl) rfl ?_
                            refine FL_val (Gives.extract rfl rfl) rfl ?_
                            refine FL_assign (h := ?_)
                            refine FL_assign (h := ?_)
                            refine FL_nil (Qseq_normal ?_)
                            refine FW_seq ?_
                            refine FW_region ?_
                            refine FL_move (h := ?_)
                            obtain ⟨F4, hp4, _⟩ := H662.focus At5
                            refine FL_callN H662 (q := fun x => openRH x q (openS d.boot).2) (val := fun x : Option Nat => .tuple #[ptrO x, I (openS d.boot).1]) (φ := fun x => x.isSome = decide ((openS d.boot).1 = 0)) (openR_ok hBb (by omega) hp4) rfl rfl (fun y3 w670 hy3 H670 _ => ?_)
                            refine FL_move (h := ?_)
                            refine FL_val (Gives.extract rfl rfl) rfl ?_
                            refine FL_val (Gives.extract rfl rfl) rfl ?_
                            refine FL_assign (h := ?_)
                            refine FL_assign (h := ?_)
                            refine FL_nil (Qseq_normal ?_)
                            refine FW_seq ?_
                            refine FW_region ?_
                            refine FL_move (h := ?_)
                            refine FL_move (h := ?_)
                            refine FL_val (Gives.neq rfl rfl) rfl ?_
                            refine FL_nil (Qseq_normal ?_)
                            first | refine FW_condP rfl (fun hc679 => ?_) (fun hc679 => ?_) | refine FW_cond rfl (fun hc679 => ?_) (fun hc679 => ?_)
                            · skip
                              first | exact absurd rfl hc679 | exact (hc679 trivial).elim | exact absurd hc679 (by decide) | exact absurd hc679 (by simp) | omega --done
                            · skip
                              refine FW_skip (Qblk_normal ?_)
                              exact Qcut_normal ((x3, y3), (openS d.boot).2, d.boot, a.boot) ⟨rfl, rfl, rfl, rfl, rfl, rfl, rfl, trivial⟩ ⟨⟨hBb.up (by omega), hx3.trans hy3.symm, fun h => openS_okS (by rw [hx3] at h; exact of_decide_eq_true h), hP.size⟩, (show Sep w noB ([_, _, _, _] ++ [_, _, _]) _ from H670.front6.front6.front2.front3).firsts⟩
                          · skip
                            refine FW_seq ?_
                            refine FW_region ?_
                            refine FL_move (h := ?_)
                            refine FL_val (Gives.eql rfl rfl) rfl ?_
                            refine FL_assign (h := ?_)
                            refine FL_nil (Qseq_normal ?_)
                            first | refine FW_condP rfl (fun hc685 => ?_) (fun hc685 => ?_) | refine FW_cond rfl (fun hc685 => ?_) (fun hc685 => ?_)
                            · skip
                              refine FW_seq ?_
                              refine FW_region ?_
                              first | refine FL_val (Gives.field0 rfl) rfl ?_ | refine FL_val (Gives.field rfl) rfl ?_ | refine FL_val (Gives.fieldA rfl) rfl ?_
                              refine FL_load H107 (hat := At0) (cs := doSCells l[i]) (h := ?_)
                              refine FL_move (h := ?_)
                              refine FL_callS (bring_ok l[i].from_ n hg.from_ (by omega)) (h := ?_)
                              refine FL_assign (h := ?_)
                              refine FL_nil (Qseq_normal ?_)
                              refine FW_seq ?_
                              refine FW_region ?_
                              refine FL_loadN H107 (us := doSCells l[i]) (hat := At0) (hu := rfl) (hk := rfl) (h := ?_)
                              refine FL_callN H107 (doBytes_ok l[i] hg.from_ hg.many) rfl rfl (fun v w693 _ H693 _ => ?_)
                              obtain ⟨Ab, cb, hvb, hcb, _⟩ := Sep.rowForm H693 At0
                              subst hvb
                              obtain ⟨b14, hb14⟩ : ∃ b14, b14 = (doB l[i]).take (min (doB l[i]).length 14) := ⟨_, rfl⟩
                              have hbl : min (doB l[i]).length 14 = b14.length := by rw [hb14, List.length_take]; omega
                              have hbt : ((doB l[i]).map B).take (b14.length * 1) = b14.map B := by rw [Nat.mul_one, ← List.map_take, ← hbl, ← hb14]
                              have hbw := hB.write (by omega) (l[i].from_ % n) b14
                              refine FL_assign (h := ?_)
                              refine FL_nil (Qseq_normal ?_)
                              refine FW_seq ?_
                              refine FW_region ?_
                              refine FL_move (h := ?_)
                              refine FL_move (h := ?_)
                              refine FL_val (Gives.lenSlice rfl) rfl ?_
                              refine FL_val (gives_minN (k := 14) hbl rfl rfl rfl) rfl ?_
                              refine FL_val (Gives.sliceTo rfl rfl (by omega)) rfl ?_
                              refine FL_assign (h := ?_)
                              refine FL_nil (Qseq_normal ?_)
                              refine FW_seq ?_
                              refine FW_region ?_
                              refine FL_move (h := ?_)
                              refine FL_move (h := ?_)
                              refine FL_move (h := ?_)
                              obtain ⟨F0, Fq, hp0, hq0, hdj0, hS0, hput0⟩ := H693.focus1 At3
                              have hrow0 : RowAt w693 Ab b14.length 1 (b14.map B) := by
                                have h1 := (rowAt_of_own hq0.1).take (k := b14.length) (by omega)
                                rw [hbt] at h1
                                exact h1
                              refine FL_call (write_ok (b := b14) (c := cb) (at_ := l[i].from_ % n) (by have := hds.1; omega) (by have := hds.2.1; omega) (by have := hds.2.2; unfold fits; omega) hrow0 (off_le (rowH_off hq0 hdj0) (by omega)) hp0) rfl rfl (fun v w705 hv => ?_)
                              obtain ⟨rfl, hk0, F1, hq1, hs0⟩ := hv
                              have H705 := hput0 _ F1 _ hk0 hq1 hs0
                              refine FL_move (h := ?_)
                              refine FL_move (h := ?_)
                              refine FL_move (h := ?_)
                              obtain ⟨F0, Fq, hp0, hq0, hdj0, hS0, hput0⟩ := H705.focus1 At4
                              have hrow0 : RowAt w705 Ab b14.length 1 (b14.map B) := by
                                have h1 := (rowAt_of_own hq0.1).take (k := b14.length) (by omega)
                                rw [hbt] at h1
                                exact h1
                              refine FL_call (writeR_ok (b := b14) (c := cb) (at_ := l[i].from_ % n) hsm hrow0 (off_le (rowH_off hq0 hdj0) (by omega)) hp0) rfl rfl (fun v w710 hv => ?_)
                              obtain ⟨rfl, hk0, F1, hq1, hs0⟩ := hv
                              have H710 := hput0 _ F1 _ hk0 hq1 hs0
                              refine FL_val (Gives.neq rfl rfl) rfl ?_
                              refine FL_nil (Qseq_normal ?_)
                              first | refine FW_condP rfl (fun hc712 => ?_) (fun hc712 => ?_) | refine FW_cond rfl (fun hc712 => ?_) (fun hc712 => ?_)
                              · skip
                                exact absurd hbw.1 hc712 --done
                              · skip
                                refine FW_skip (Qblk_normal ?_)
                                exact Qcut_normal ((x, y), m, (d.write (l[i].from_ % n) b14).2, (a.write (l[i].from_ % n) b14).2) ⟨rfl, rfl, rfl, rfl, rfl, rfl, rfl, trivial⟩ ⟨hP.disk (hbw.2.up (by omega)) (write_size _ _ _), H710.drop0.drop0⟩
                            · skip
                              refine FW_skip (Qblk_normal ?_)
                              exact Qcut_normal ((x, y), m, d, a) ⟨rfl, rfl, rfl, rfl, rfl, rfl, rfl, trivial⟩ ⟨hP.up (by omega), H107.drop0⟩
                · skip
                  intro ⟨⟨x2, y2⟩, m2, d2, a2⟩ τ w717 hI
                  obtain ⟨hP2, H717⟩ := hI
                  dsimp only at hP2 H717
                  simp only [upds, like, upd_ds]
                  refine FW_seq ?_
                  refine FW_region ?_
                  refine FL_move (h := ?_)
                  refine FL_move (h := ?_)
                  refine FL_move (h := ?_)
                  refine FL_move (h := ?_)
                  obtain ⟨Fx, hfx, _⟩ := H717.focus At0
                  obtain ⟨Fy, hfy, _⟩ := H717.focus At1
                  obtain ⟨F1, hf1, _⟩ := H717.focus At2
                  obtain ⟨F2, hf2, _⟩ := H717.focus At3
                  refine FL_callQ H717 (told30_ok hP2.xy hP2.both (by omega) hfx hfy hf1 hf2) (h := fun w723 H723 _ => ?_)
                  first | refine FL_val (Gives.notP rfl) rfl ?_ | refine FL_val (Gives.not rfl) rfl ?_
                  refine FL_nil (Qseq_normal ?_)
                  first | refine FW_condP rfl (fun hc725 => ?_) (fun hc725 => ?_) | refine FW_cond rfl (fun hc725 => ?_) (fun hc725 => ?_)
                  · skip
                    first | exact absurd rfl hc725 | exact (hc725 trivial).elim | exact absurd hc725 (by decide) | exact absurd hc725 (by simp) | omega --done
                  · skip
                    refine FW_skip (Qblk_normal (Qseq_normal ?_))
                    refine FW_region ?_
                    refine FL_move (h := ?_)
                    first | refine FL_val (Gives.addI rfl rfl rfl (by omega)) rfl ?_ | refine FL_val (Gives.add rfl rfl) rfl ?_
                    refine FL_assign (h := ?_)
                    refine FL_nil ?_
                    exact Qround_normal (i + 1, (x2, y2), m2, d2, a2) ⟨rfl, rfl, rfl, rfl, rfl, rfl, rfl, trivial⟩ ⟨by dsimp only; omega, by dsimp only; omega, hP2.up (by dsimp only; omega), H723⟩ (by dsimp only; omega)
              · skip
                refine FW_exit (Qseq_exit (Qround_exit (Qblk_exit (Qseq_normal ?_))))
                refine FW_seq ?_
                refine FW_region ?_
                refine FL_callQ H87 worksS_ok (h := fun w732 H732 _ => ?_)
                refine FL_assign (h := ?_)
                refine FL_nil (Qseq_normal ?_)
                refine FW_ret (Qfn_ret (hR := ?_))
                exact ⟨rfl, H732.kept⟩
            · skip
              refine FL_off rfl rfl rfl ?_
              refine FL_off rfl rfl rfl ?_
              refine FL_pickF (h := ?_)
              refine FL_nil (Qseq_normal ?_)
              refine FW_cond_false rfl ?_
              refine FW_exit (Qseq_exit (Qround_exit (Qblk_exit (Qseq_normal ?_))))
              refine FW_seq ?_
              refine FW_region ?_
              refine FL_callQ H87 worksS_ok (h := fun w737 H737 _ => ?_)
              refine FL_assign (h := ?_)
              refine FL_nil (Qseq_normal ?_)
              refine FW_ret (Qfn_ret (hR := ?_))
              exact ⟨rfl, H737.kept⟩
    · skip
      first | exact absurd rfl hc28 | exact (hc28 trivial).elim | exact absurd hc28 (by decide) | exact absurd hc28 (by simp) | omega --done
end
end Go.Proofs.Yteflbohpabdjkaa
