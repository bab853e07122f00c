/-
  A disk that is none: no disk at all, or the zero one.
-/
import Derived.Test.YteflbohpabdjkaaDiskT
import Derived.Test.YteflbohpabdjkaaSlotT
import Derived.Test.YteflbohpabdjkaaMwC
import Derived.Lib.AppendZerosOnto
import Derived.Test.YteflbohpabdjkaaOpenDoS
namespace Go.Proofs.Yteflbohpabdjkaa
open Go Go.Mw
set_option maxRecDepth 4000

def NoDisk (w : World) (v : Value) : Prop := v = .pointer none ∨ ∃ (p : Nat) (cs : List Value), v = .pointer (some ⟨p, 0, none⟩) ∧ w.heap[p]? = some (.cells cs.toArray 64 (0, 0)) ∧ cs[0]? = some (I 0)
section
variable {w : World} {u : Value}
theorem none_zero {p : Nat} {cs : List Value} (hb : w.heap[p]? = some (.cells cs.toArray 64 (0, 0))) (hc : cs[0]? = some (I 0)) :
    Rets Try.prog 62 [.pointer (some ⟨p, 0, none⟩)] w fun v w' => v = .bool true ∧ w = w' := by
  refine rets1 Try.func62 rfl rfl rfl rfl ?_
  refine FW_seq ?_
  refine FW_region ?_
  refine FL_assign (h := ?_)
  refine FL_nil (Qseq_normal ?_)
  refine FW_seq ?_
  refine FW_region ?_
  refine FL_move (h := ?_)
  refine FL_val (Gives.eqlNil rfl rfl) rfl ?_
  refine FL_move (h := ?_)
  first | refine FL_splitP (t := 5) rfl (fun hs5 => ?_) (fun hs5 => ?_) | refine FL_split (t := 5) rfl (fun hs5 => ?_) (fun hs5 => ?_)
  · skip
    simp at hs5 --done
  · skip
    refine FL_on rfl rfl ?_
    refine FL_move (h := ?_)
    refine FL_on rfl rfl ?_
    refine FL_val (Gives.nilCheck rfl) rfl ?_
    refine FL_on rfl rfl ?_
    first | refine FL_val (Gives.field0 rfl) rfl ?_ | refine FL_val (Gives.field rfl) rfl ?_ | refine FL_val (Gives.fieldA rfl) rfl ?_
    refine FL_on rfl rfl ?_
    refine FL_val (Gives.load1 rfl hb hc) rfl ?_
    refine FL_on rfl rfl ?_
    refine FL_val (Gives.eql rfl rfl) rfl ?_
    refine FL_pickF (h := ?_)
    refine FL_assign (h := ?_)
    refine FL_nil (Qseq_normal ?_)
    refine FW_ret (Qfn_ret (hR := ?_))
    exact ⟨rfl, rfl⟩
theorem NoDisk.none (h : NoDisk w u) : Rets Try.prog 62 [u] w fun v w' => v = .bool true ∧ w = w' := by
  rcases h with rfl | ⟨p, cs, rfl, hb, hc⟩
  · exact none_nil
  · exact none_zero hb hc
theorem NoDisk.look (h : NoDisk w u) (at_ : Int) : Rets Try.prog 64 [u, I at_] w fun v w' => v = I 1 ∧ w = w' := by
  refine rets2 Try.func64 rfl rfl rfl rfl ?_
  refine FW_seq ?_
  refine FW_region ?_
  refine FL_assign (h := ?_)
  refine FL_nil (Qseq_normal ?_)
  refine FW_seq ?_
  refine FW_block ?_
  refine FW_seq ?_
  refine FW_region ?_
  refine FL_move (h := ?_)
  refine FL_callS h.none (h := ?_)
  refine FL_assign (h := ?_)
  refine FL_nil (Qseq_normal ?_)
  first | refine FW_condP rfl (fun hc5 => ?_) (fun hc5 => ?_) | refine FW_cond rfl (fun hc5 => ?_) (fun hc5 => ?_)
  · skip
    refine FW_seq ?_
    refine FW_region ?_
    refine FL_assign (h := ?_)
    refine FL_nil (Qseq_normal ?_)
    refine FW_ret (Qblk_ret (Qseq_ret (Qfn_ret (hR := ?_))))
    exact ⟨rfl, rfl⟩
  · skip
    first | exact absurd rfl hc5 | exact (hc5 trivial).elim | exact absurd hc5 (by decide) | exact absurd hc5 (by simp) | omega --done
theorem NoDisk.size (h : NoDisk w u) : Rets Try.prog 45 [u] w fun v w' => v = I 0 ∧ w = w' := by
  refine rets1 Try.func45 rfl rfl rfl rfl ?_
  refine FW_seq ?_
  refine FW_region ?_
  refine FL_assign (h := ?_)
  refine FL_nil (Qseq_normal ?_)
  refine FW_seq ?_
  refine FW_seq ?_
  refine FW_region ?_
  refine FL_move (h := ?_)
  refine FL_callS h.none (h := ?_)
  refine FL_nil (Qseq_normal ?_)
  first | refine FW_condP rfl (fun hc4 => ?_) (fun hc4 => ?_) | refine FW_cond rfl (fun hc4 => ?_) (fun hc4 => ?_)
  · skip
    refine FW_seq ?_
    refine FW_region ?_
    refine FL_assign (h := ?_)
    refine FL_nil (Qseq_normal ?_)
    refine FW_ret (Qseq_ret (Qfn_ret (hR := ?_)))
    exact ⟨rfl, rfl⟩
  · skip
    first | exact absurd rfl hc4 | exact (hc4 trivial).elim | exact absurd hc4 (by decide) | exact absurd hc4 (by simp) | omega --done
theorem NoDisk.ops (h : NoDisk w u) : Rets Try.prog 30 [u] w fun v w' => v = I 0 ∧ w = w' := by
  refine rets1 Try.func30 rfl rfl rfl rfl ?_
  refine FW_seq ?_
  refine FW_region ?_
  refine FL_assign (h := ?_)
  refine FL_nil (Qseq_normal ?_)
  refine FW_seq ?_
  refine FW_seq ?_
  refine FW_region ?_
  refine FL_move (h := ?_)
  refine FL_callS h.none (h := ?_)
  refine FL_nil (Qseq_normal ?_)
  first | refine FW_condP rfl (fun hc4 => ?_) (fun hc4 => ?_) | refine FW_cond rfl (fun hc4 => ?_) (fun hc4 => ?_)
  · skip
    refine FW_seq ?_
    refine FW_region ?_
    refine FL_assign (h := ?_)
    refine FL_nil (Qseq_normal ?_)
    refine FW_ret (Qseq_ret (Qfn_ret (hR := ?_)))
    exact ⟨rfl, rfl⟩
  · skip
    first | exact absurd rfl hc4 | exact (hc4 trivial).elim | exact absurd hc4 (by decide) | exact absurd hc4 (by simp) | omega --done
theorem NoDisk.alive (h : NoDisk w u) : Rets Try.prog 29 [u] w fun v w' => v = .bool false ∧ w = w' := by
  refine rets1 Try.func29 rfl rfl rfl rfl ?_
  refine FW_seq ?_
  refine FW_region ?_
  refine FL_assign (h := ?_)
  refine FL_nil (Qseq_normal ?_)
  refine FW_seq ?_
  refine FW_region ?_
  refine FL_move (h := ?_)
  refine FL_callS h.none (h := ?_)
  first | refine FL_val (Gives.notP rfl) rfl ?_ | refine FL_val (Gives.not rfl) rfl ?_
  refine FL_move (h := ?_)
  first | refine FL_splitP (t := 6) rfl (fun hs6 => ?_) (fun hs6 => ?_) | refine FL_split (t := 6) rfl (fun hs6 => ?_) (fun hs6 => ?_)
  · skip
    first | exact absurd rfl hs6 | exact (hs6 trivial).elim | exact absurd hs6 (by decide) | exact absurd hs6 (by simp) | omega --done
  · skip
    refine FL_off rfl rfl rfl ?_
    refine FL_off rfl rfl rfl ?_
    refine FL_off rfl rfl rfl ?_
    refine FL_off rfl rfl rfl ?_
    refine FL_off rfl rfl rfl ?_
    refine FL_pickF (h := ?_)
    refine FL_assign (h := ?_)
    refine FL_nil (Qseq_normal ?_)
    refine FW_ret (Qfn_ret (hR := ?_))
    exact ⟨rfl, rfl⟩
theorem NoDisk.boot (h : NoDisk w u) : Rets Try.prog 21 [u] w fun v w' => v = .tuple #[] ∧ w = w' := by
  refine rets1 Try.func21 rfl rfl rfl rfl ?_
  refine FW_seq ?_
  refine FW_region ?_
  refine FL_move (h := ?_)
  refine FL_callS h.none (h := ?_)
  first | refine FL_val (Gives.notP rfl) rfl ?_ | refine FL_val (Gives.not rfl) rfl ?_
  refine FL_nil (Qseq_normal ?_)
  first | refine FW_condP rfl (fun hc4 => ?_) (fun hc4 => ?_) | refine FW_cond rfl (fun hc4 => ?_) (fun hc4 => ?_)
  · skip
    first | exact absurd rfl hc4 | exact (hc4 trivial).elim | exact absurd hc4 (by decide) | exact absurd hc4 (by simp) | omega --done
  · skip
    refine FW_skip (Qfn_normal (hR := ?_))
    exact ⟨rfl, rfl⟩
theorem NoDisk.fail (h : NoDisk w u) (n x : Value) : Rets Try.prog 27 [u, n, x] w fun v w' => v = .tuple #[] ∧ w = w' := by
  refine rets3 Try.func27 rfl rfl rfl rfl ?_
  refine FW_seq ?_
  refine FW_seq ?_
  refine FW_region ?_
  refine FL_move (h := ?_)
  refine FL_callS h.none (h := ?_)
  refine FL_move (h := ?_)
  first | refine FL_splitP (t := 8) rfl (fun hs4 => ?_) (fun hs4 => ?_) | refine FL_split (t := 8) rfl (fun hs4 => ?_) (fun hs4 => ?_)
  · skip
    refine FL_off rfl rfl rfl ?_
    refine FL_off rfl rfl rfl ?_
    refine FL_off rfl rfl rfl ?_
    refine FL_off rfl rfl rfl ?_
    refine FL_pickT (h := ?_)
    refine FL_nil (Qseq_normal ?_)
    refine FW_cond_true rfl ?_
    refine FW_ret (Qseq_ret (Qfn_ret (hR := ?_)))
    exact ⟨rfl, rfl⟩
  · skip
    first | exact absurd rfl hs4 | exact (hs4 trivial).elim | exact absurd hs4 (by decide) | exact absurd hs4 (by simp) | omega --done
theorem NoDisk.crash (h : NoDisk w u) (x : Value) : Rets Try.prog 20 [u, x] w fun v w' => v = .tuple #[] ∧ w = w' := by
  refine rets2 Try.func20 rfl rfl rfl rfl ?_
  refine FW_seq ?_
  refine FW_region ?_
  refine FL_move (h := ?_)
  refine FL_callS h.none (h := ?_)
  first | refine FL_val (Gives.notP rfl) rfl ?_ | refine FL_val (Gives.not rfl) rfl ?_
  refine FL_move (h := ?_)
  first | refine FL_splitP (t := 7) rfl (fun hs5 => ?_) (fun hs5 => ?_) | refine FL_split (t := 7) rfl (fun hs5 => ?_) (fun hs5 => ?_)
  · skip
    first | exact absurd rfl hs5 | exact (hs5 trivial).elim | exact absurd hs5 (by decide) | exact absurd hs5 (by simp) | omega --done
  · skip
    refine FL_off rfl rfl rfl ?_
    refine FL_off rfl rfl rfl ?_
    refine FL_off rfl rfl rfl ?_
    refine FL_off rfl rfl rfl ?_
    refine FL_off rfl rfl rfl ?_
    refine FL_pickF (h := ?_)
    refine FL_nil (Qseq_normal ?_)
    refine FW_cond_false rfl ?_
    refine FW_skip (Qfn_normal (hR := ?_))
    exact ⟨rfl, rfl⟩
theorem NoDisk.copy (h : NoDisk w u) : Rets Try.prog 31 [u] w fun v w' => v = .pointer Option.none ∧ w = w' := by
  refine rets1 Try.func31 rfl rfl rfl rfl ?_
  refine FW_seq ?_
  refine FW_region ?_
  refine FL_assign (h := ?_)
  refine FL_nil (Qseq_normal ?_)
  refine FW_seq ?_
  refine FW_seq ?_
  refine FW_region ?_
  refine FL_move (h := ?_)
  refine FL_callS h.none (h := ?_)
  refine FL_nil (Qseq_normal ?_)
  first | refine FW_condP rfl (fun hc4 => ?_) (fun hc4 => ?_) | refine FW_cond rfl (fun hc4 => ?_) (fun hc4 => ?_)
  · skip
    refine FW_seq ?_
    refine FW_region ?_
    refine FL_assign (h := ?_)
    refine FL_nil (Qseq_normal ?_)
    refine FW_ret (Qseq_ret (Qfn_ret (hR := ?_)))
    exact ⟨rfl, rfl⟩
  · skip
    first | exact absurd rfl hc4 | exact (hc4 trivial).elim | exact absurd hc4 (by decide) | exact absurd hc4 (by simp) | omega --done
theorem NoDisk.read (h : NoDisk w u) (at_ : Int) : Rets Try.prog 37 [u, I at_] w fun v w' => v = .tuple #[.slice Option.none 0 0, I 1] ∧ w = w' := by
  refine rets2 Try.func37 rfl rfl rfl rfl ?_
  refine FW_seq ?_
  refine FW_region ?_
  refine FL_assign (h := ?_)
  refine FL_assign (h := ?_)
  refine FL_nil (Qseq_normal ?_)
  refine FW_seq ?_
  refine FW_seq ?_
  refine FW_region ?_
  refine FL_move (h := ?_)
  refine FL_move (h := ?_)
  refine FL_callS (h.look at_) (h := ?_)
  refine FL_assign (h := ?_)
  refine FL_nil (Qseq_normal ?_)
  refine FW_seq ?_
  refine FW_region ?_
  refine FL_move (h := ?_)
  refine FL_val (Gives.neq rfl rfl) rfl ?_
  refine FL_nil (Qseq_normal ?_)
  first | refine FW_condP rfl (fun hc9 => ?_) (fun hc9 => ?_) | refine FW_cond rfl (fun hc9 => ?_) (fun hc9 => ?_)
  · skip
    refine FW_seq ?_
    refine FW_region ?_
    refine FL_move (h := ?_)
    refine FL_assign (h := ?_)
    refine FL_assign (h := ?_)
    refine FL_nil (Qseq_normal ?_)
    refine FW_ret (Qseq_ret (Qfn_ret (hR := ?_)))
    exact ⟨rfl, rfl⟩
  · skip
    first | exact absurd rfl hc9 | exact (hc9 trivial).elim | exact absurd hc9 (by decide) | exact absurd hc9 (by simp) | omega --done
theorem NoDisk.write (h : NoDisk w u) (at_ : Int) (x : Value) : Rets Try.prog 24 [u, I at_, x] w fun v w' => v = I 1 ∧ w = w' := by
  refine rets3 Try.func24 rfl rfl rfl rfl ?_
  refine FW_seq ?_
  refine FW_region ?_
  refine FL_assign (h := ?_)
  refine FL_nil (Qseq_normal ?_)
  refine FW_seq ?_
  refine FW_seq ?_
  refine FW_region ?_
  refine FL_move (h := ?_)
  refine FL_move (h := ?_)
  refine FL_callS (h.look at_) (h := ?_)
  refine FL_assign (h := ?_)
  refine FL_nil (Qseq_normal ?_)
  refine FW_seq ?_
  refine FW_region ?_
  refine FL_move (h := ?_)
  refine FL_val (Gives.neq rfl rfl) rfl ?_
  refine FL_nil (Qseq_normal ?_)
  first | refine FW_condP rfl (fun hc8 => ?_) (fun hc8 => ?_) | refine FW_cond rfl (fun hc8 => ?_) (fun hc8 => ?_)
  · skip
    refine FW_seq ?_
    refine FW_region ?_
    refine FL_move (h := ?_)
    refine FL_assign (h := ?_)
    refine FL_nil (Qseq_normal ?_)
    refine FW_ret (Qseq_ret (Qfn_ret (hR := ?_)))
    exact ⟨rfl, rfl⟩
  · skip
    first | exact absurd rfl hc8 | exact (hc8 trivial).elim | exact absurd hc8 (by decide) | exact absurd hc8 (by simp) | omega --done
theorem NoDisk.flush (h : NoDisk w u) : Rets Try.prog 28 [u] w fun v w' => v = I 1 ∧ w = w' := by
  refine rets1 Try.func28 rfl rfl rfl rfl ?_
  refine FW_seq ?_
  refine FW_region ?_
  refine FL_assign (h := ?_)
  refine FL_nil (Qseq_normal ?_)
  refine FW_seq ?_
  refine FW_seq ?_
  refine FW_region ?_
  refine FL_move (h := ?_)
  refine FL_callS (h.look 0) (h := ?_)
  refine FL_assign (h := ?_)
  refine FL_nil (Qseq_normal ?_)
  refine FW_seq ?_
  refine FW_region ?_
  refine FL_move (h := ?_)
  refine FL_val (Gives.neq rfl rfl) rfl ?_
  refine FL_nil (Qseq_normal ?_)
  first | refine FW_condP rfl (fun hc7 => ?_) (fun hc7 => ?_) | refine FW_cond rfl (fun hc7 => ?_) (fun hc7 => ?_)
  · skip
    refine FW_seq ?_
    refine FW_region ?_
    refine FL_move (h := ?_)
    refine FL_assign (h := ?_)
    refine FL_nil (Qseq_normal ?_)
    refine FW_ret (Qseq_ret (Qfn_ret (hR := ?_)))
    exact ⟨rfl, rfl⟩
  · skip
    first | exact absurd rfl hc7 | exact (hc7 trivial).elim | exact absurd hc7 (by decide) | exact absurd hc7 (by simp) | omega --done
end
end Go.Proofs.Yteflbohpabdjkaa
/-
  Slots that are none: no slots at all, or the zero ones.
-/
namespace Go.Proofs.Yteflbohpabdjkaa
open Go Go.Mw
set_option maxRecDepth 4000

def NoSlots (w : World) (v : Value) : Prop := v = .pointer none ∨ ∃ (p : Nat) (cs : List Value), v = .pointer (some ⟨p, 0, none⟩) ∧ w.heap[p]? = some (.cells cs.toArray 95 (0, 0)) ∧ cs[0]? = some (.pointer none)
section
variable {w : World} {u : Value}
theorem noneS_nil : Rets Try.prog 73 [.pointer none] w fun v w' => v = .bool true ∧ w = w' := by
  refine rets1 Try.func73 rfl rfl rfl rfl ?_
  refine FW_seq ?_
  refine FW_region ?_
  refine FL_assign (h := ?_)
  refine FL_nil (Qseq_normal ?_)
  refine FW_seq ?_
  refine FW_region ?_
  refine FL_move (h := ?_)
  refine FL_val (Gives.eqlNil rfl rfl) rfl ?_
  refine FL_move (h := ?_)
  first | refine FL_splitP (t := 5) rfl (fun hs5 => ?_) (fun hs5 => ?_) | refine FL_split (t := 5) rfl (fun hs5 => ?_) (fun hs5 => ?_)
  · skip
    refine FL_off rfl rfl rfl ?_
    refine FL_off rfl rfl rfl ?_
    refine FL_off rfl rfl rfl ?_
    refine FL_off rfl rfl rfl ?_
    refine FL_off rfl rfl rfl ?_
    refine FL_pickT (h := ?_)
    refine FL_assign (h := ?_)
    refine FL_nil (Qseq_normal ?_)
    refine FW_ret (Qfn_ret (hR := ?_))
    exact ⟨rfl, rfl⟩
  · skip
    simp at hs5 --done
theorem noneS_zero {p : Nat} {cs : List Value} (hb : w.heap[p]? = some (.cells cs.toArray 95 (0, 0))) (hc : cs[0]? = some (.pointer none)) :
    Rets Try.prog 73 [.pointer (some ⟨p, 0, none⟩)] w fun v w' => v = .bool true ∧ w = w' := by
  refine rets1 Try.func73 rfl rfl rfl rfl ?_
  refine FW_seq ?_
  refine FW_region ?_
  refine FL_assign (h := ?_)
  refine FL_nil (Qseq_normal ?_)
  refine FW_seq ?_
  refine FW_region ?_
  refine FL_move (h := ?_)
  refine FL_val (Gives.eqlNil rfl rfl) rfl ?_
  refine FL_move (h := ?_)
  first | refine FL_splitP (t := 5) rfl (fun hs5 => ?_) (fun hs5 => ?_) | refine FL_split (t := 5) rfl (fun hs5 => ?_) (fun hs5 => ?_)
  · skip
    simp at hs5 --done
  · skip
    refine FL_on rfl rfl ?_
    refine FL_move (h := ?_)
    refine FL_on rfl rfl ?_
    refine FL_val (Gives.nilCheck rfl) rfl ?_
    refine FL_on rfl rfl ?_
    first | refine FL_val (Gives.field0 rfl) rfl ?_ | refine FL_val (Gives.field rfl) rfl ?_ | refine FL_val (Gives.fieldA rfl) rfl ?_
    refine FL_on rfl rfl ?_
    refine FL_val (Gives.load1 rfl hb hc) rfl ?_
    refine FL_on rfl rfl ?_
    refine FL_val (Gives.eqlNil rfl rfl) rfl ?_
    refine FL_pickF (h := ?_)
    refine FL_assign (h := ?_)
    refine FL_nil (Qseq_normal ?_)
    refine FW_ret (Qfn_ret (hR := ?_))
    exact ⟨rfl, rfl⟩
theorem NoSlots.none (h : NoSlots w u) : Rets Try.prog 73 [u] w fun v w' => v = .bool true ∧ w = w' := by
  rcases h with rfl | ⟨p, cs, rfl, hb, hc⟩
  · exact noneS_nil
  · exact noneS_zero hb hc
theorem NoSlots.keep {w' : World} (h : NoSlots w u) (hk : Kept noB w w') : NoSlots w' u := by
  rcases h with rfl | ⟨p, cs, rfl, hb, hc⟩
  · exact .inl rfl
  · exact .inr ⟨p, cs, rfl, hk.get hb id, hc⟩
theorem NoSlots.load (h : NoSlots w u) : Rets Try.prog 53 [u] w fun v w' => v = .tuple #[.slice Option.none 0 0, I 1] ∧ w = w' := by
  refine rets1 Try.func53 rfl rfl rfl rfl ?_
  refine FW_seq ?_
  refine FW_region ?_
  refine FL_assign (h := ?_)
  refine FL_assign (h := ?_)
  refine FL_nil (Qseq_normal ?_)
  refine FW_seq ?_
  refine FW_block ?_
  refine FW_seq ?_
  refine FW_region ?_
  refine FL_move (h := ?_)
  refine FL_callS h.none (h := ?_)
  refine FL_assign (h := ?_)
  refine FL_nil (Qseq_normal ?_)
  first | refine FW_condP rfl (fun hc6 => ?_) (fun hc6 => ?_) | refine FW_cond rfl (fun hc6 => ?_) (fun hc6 => ?_)
  · skip
    refine FW_seq ?_
    refine FW_region ?_
    refine FL_assign (h := ?_)
    refine FL_assign (h := ?_)
    refine FL_nil (Qseq_normal ?_)
    refine FW_ret (Qblk_ret (Qseq_ret (Qfn_ret (hR := ?_))))
    exact ⟨rfl, rfl⟩
  · skip
    first | exact absurd rfl hc6 | exact (hc6 trivial).elim | exact absurd hc6 (by decide) | exact absurd hc6 (by simp) | omega --done
theorem NoSlots.number (h : NoSlots w u) : Rets Try.prog 54 [u] w fun v w' => v = I 0 ∧ w = w' := by
  refine rets1 Try.func54 rfl rfl rfl rfl ?_
  refine FW_seq ?_
  refine FW_region ?_
  refine FL_assign (h := ?_)
  refine FL_nil (Qseq_normal ?_)
  refine FW_seq ?_
  refine FW_seq ?_
  refine FW_region ?_
  refine FL_move (h := ?_)
  refine FL_callS h.none (h := ?_)
  refine FL_nil (Qseq_normal ?_)
  first | refine FW_condP rfl (fun hc4 => ?_) (fun hc4 => ?_) | refine FW_cond rfl (fun hc4 => ?_) (fun hc4 => ?_)
  · skip
    refine FW_seq ?_
    refine FW_region ?_
    refine FL_assign (h := ?_)
    refine FL_nil (Qseq_normal ?_)
    refine FW_ret (Qseq_ret (Qfn_ret (hR := ?_)))
    exact ⟨rfl, rfl⟩
  · skip
    first | exact absurd rfl hc4 | exact (hc4 trivial).elim | exact absurd hc4 (by decide) | exact absurd hc4 (by simp) | omega --done
theorem NoSlots.room (h : NoSlots w u) : Rets Try.prog 60 [u] w fun v w' => v = I 0 ∧ w = w' := by
  refine rets1 Try.func60 rfl rfl rfl rfl ?_
  refine FW_seq ?_
  refine FW_region ?_
  refine FL_assign (h := ?_)
  refine FL_nil (Qseq_normal ?_)
  refine FW_seq ?_
  refine FW_seq ?_
  refine FW_region ?_
  refine FL_move (h := ?_)
  refine FL_callS h.none (h := ?_)
  refine FL_nil (Qseq_normal ?_)
  first | refine FW_condP rfl (fun hc4 => ?_) (fun hc4 => ?_) | refine FW_cond rfl (fun hc4 => ?_) (fun hc4 => ?_)
  · skip
    refine FW_seq ?_
    refine FW_region ?_
    refine FL_assign (h := ?_)
    refine FL_nil (Qseq_normal ?_)
    refine FW_ret (Qseq_ret (Qfn_ret (hR := ?_)))
    exact ⟨rfl, rfl⟩
  · skip
    first | exact absurd rfl hc4 | exact (hc4 trivial).elim | exact absurd hc4 (by decide) | exact absurd hc4 (by simp) | omega --done
theorem NoSlots.save (h : NoSlots w u) (x : Value) (hu : u.cells = #[u]) : Rets Try.prog 48 [u, x] w fun v w' => v = I 1 ∧ Kept noB w w' := by
  have H := Sep.start0 w
  refine rets2 Try.func48 rfl rfl rfl rfl ?_
  refine FW_seq ?_
  refine FW_region ?_
  refine FL_box H (cs := [u]) (hx := rfl) (hcs := hu) (h := fun b w2 H2 hk => ?_)
  refine FL_assign (h := ?_)
  refine FL_nil (Qseq_normal ?_)
  refine FW_seq ?_
  refine FW_block ?_
  refine FW_seq ?_
  refine FW_region ?_
  refine FL_load H2 (h := ?_)
  refine FL_callS (h.keep hk).none (h := ?_)
  refine FL_assign (h := ?_)
  refine FL_nil (Qseq_normal ?_)
  first | refine FW_condP rfl (fun hc7 => ?_) (fun hc7 => ?_) | refine FW_cond rfl (fun hc7 => ?_) (fun hc7 => ?_)
  · skip
    refine FW_seq ?_
    refine FW_region ?_
    refine FL_assign (h := ?_)
    refine FL_nil (Qseq_normal ?_)
    refine FW_ret (Qblk_ret (Qseq_ret (Qfn_ret (hR := ?_))))
    exact ⟨rfl, H2.kept⟩
  · skip
    first | exact absurd rfl hc7 | exact (hc7 trivial).elim | exact absurd hc7 (by decide) | exact absurd hc7 (by simp) | omega --done
theorem openS_zero (h : NoDisk w u) : Rets Try.prog 52 [u] w fun v w' => v = .tuple #[.pointer Option.none, I 1] ∧ w = w' := by
  refine rets1 Try.func52 rfl rfl rfl rfl ?_
  refine FW_seq ?_
  refine FW_region ?_
  refine FL_assign (h := ?_)
  refine FL_assign (h := ?_)
  refine FL_nil (Qseq_normal ?_)
  refine FW_seq ?_
  refine FW_seq ?_
  refine FW_region ?_
  refine FL_move (h := ?_)
  refine FL_callS h.size (h := ?_)
  refine FL_val (Gives.eql rfl rfl) rfl ?_
  refine FL_nil (Qseq_normal ?_)
  first | refine FW_condP rfl (fun hc6 => ?_) (fun hc6 => ?_) | refine FW_cond rfl (fun hc6 => ?_) (fun hc6 => ?_)
  · skip
    refine FW_seq ?_
    refine FW_region ?_
    refine FL_assign (h := ?_)
    refine FL_assign (h := ?_)
    refine FL_nil (Qseq_normal ?_)
    refine FW_ret (Qseq_ret (Qfn_ret (hR := ?_)))
    exact ⟨rfl, rfl⟩
  · skip
    first | exact absurd rfl hc6 | exact (hc6 trivial).elim | exact absurd hc6 (by decide) | exact absurd hc6 (by simp) | omega --done
end
end Go.Proofs.Yteflbohpabdjkaa
/-
  append(s, make([]T, k)...), whose second argument is the number k. Nothing of a given program stands here.
-/
namespace Go.Mw
open Go.RowKit

theorem zeroCells_one {z : Value} (hz : z.cells = #[z]) (k : Nat) : Builtin.zeroCells z.cells k = (List.replicate k z).toArray := by
  rw [hz]
  apply Array.ext
  · simp [Builtin.zeroCells]
  · intro i h1 h2
    simp [Builtin.zeroCells, Nat.mod_one]
theorem run_append_zeros {P : Program} {w : World} (t tn ty e : TypeId) [hs : IsSlice P t e] {kn : IntKind} [hn : IsInt P tn kn] {bytes : Nat} [hc : Cells P e 1 bytes] {z : Value} [hz : Zero P e z] (hzs : z.oneCell' = true)
    (v : Value) (n : Nat) (xs : List Value) (hown : w.ownsRow 0 e 1 v n xs) (kq : IntKind) (k : Nat) (h0 : 0 < k) (h63 : n + k ≤ maxLen) (hbytes : (n + k) * bytes ≤ 140737488355328) :
    ∃ v' w', (Builtin.append_ #[t, tn] ty #[v, .int kq k]).run P w = .ok v' w' ∧ w'.ownsRow 0 e 1 v' (n + k) (xs ++ List.replicate k z) ∧ w.grownBy w' v.ownBlock ∧
      (v'.ownBlock = v.ownBlock ∨ v'.ownBlock = some w.heap.size) := by
  obtain ⟨i, hi, hsb⟩ := Option.map_eq_some_iff.1 hc.size
  simp only [Prod.mk.injEq] at hsb
  obtain ⟨hsize, hby⟩ := hsb
  have hzero : i.zero = some z := by
    have := hz.run w
    simp [zeroValue, typeInfo, hi] at this
    cases hq : i.zero with
    | none => simp [hq] at this
    | some u => simp [hq] at this; rw [this]
  have hzc : z.cells = #[z] := by cases z <;> first | rfl | cases hzs
  have hzz : z.cells.size = 1 := by rw [hzc]; rfl
  have hsmall : n + k ≤ 9223372036854775807 := by simp only [maxLen] at h63; omega
  have hkb : k * bytes ≤ 140737488355328 := Nat.le_trans (Nat.mul_le_mul_right _ (by omega)) hbytes
  have hlen : (xs ++ List.replicate k z).length = (n + k) * 1 := by rw [List.length_append, hown.1, List.length_replicate]; omega
  have grown : ∀ (old : Nat), old < n + k → ∀ (row : Option Nat),
      (w.drew.alloc (.cells (xs.toArray ++ Builtin.zeroCells z.cells k ++ Builtin.zeroCells z.cells (grownCap w (n + k) old e - (n + k))) e)).ownsRow 0 e 1
        (.slice (some ⟨w.heap.size, 0, none⟩) (n + k) (grownCap w (n + k) old e)) (n + k) (xs ++ List.replicate k z) ∧
      w.grownBy (w.drew.alloc (.cells (xs.toArray ++ Builtin.zeroCells z.cells k ++ Builtin.zeroCells z.cells (grownCap w (n + k) old e - (n + k))) e)) row := by
    intro old ho row
    have hge := grownCap_ge w (n + k) old e
    have hcm : grownCap w (n + k) old e ≤ maxLen := grownCap_le_maxLen w (n + k) old e h63
    refine ⟨⟨hlen, .inr ⟨w.heap.size, _, _, rfl, Nat.zero_le _, heap_alloc_new w.drew _, hge, hcm, ?_, ?_⟩⟩, ⟨rfl, rfl, rfl, by simp, fun j hj _ => heap_alloc_old w.drew _ hj⟩⟩
    · have hx1 := hown.1
      simp only [Array.size_append, List.size_toArray, size_zeroCells, hzz]
      omega
    · rw [zeroCells_one hzc, zeroCells_one hzc]
      simp only [Array.toList_append, List.append_assoc]
      rw [← List.append_assoc, ← hlen]
      exact List.take_left
  rcases hown.2 with ⟨rfl, rfl⟩ | ⟨g, cap, cur, rfl, hbg, hg, hnc, hcm, hcs, htake⟩
  · have hx : xs = [] := List.eq_nil_of_length_eq_zero (by simpa using hown.1)
    subst hx
    have hr := Lib.run_append_nil_zeros (P := P) w t tn ty e i z kq kn hs.und hn.und hi hzero k h0 (by omega) (by omega) (by rw [hby]; omega)
    have hgr := grown 0 (by omega) (Value.ownBlock (.slice none 0 0))
    simp only [Nat.zero_add, List.nil_append, Array.empty_append] at hgr ⊢
    exact ⟨_, _, hr, hgr.1, hgr.2, Or.inr rfl⟩
  · by_cases hroom : n + k ≤ cap
    · have hfit : n * 1 + (List.replicate k z).length ≤ cur.size := by rw [List.length_replicate, hcs]; omega
      have hst := run_storeCells_at P g (n * 1) e (List.replicate k z) 0 cur w hg (by simpa using hfit) (fun u hu => by rw [List.eq_of_mem_replicate hu]; exact hzs)
      have hw : IntKind.i64.wrap (k : Int) = k := by rw [IntKind.wrap_i64]; omega
      have hneg : ¬ ((k : Int) < 0) := by omega
      have h48i : ¬ (281474976710656 < (k : Int) * (i.bytes : Int)) := by
        rw [← Int.natCast_mul, hby]
        omega
      have hns : k ≠ 0 := by omega
      refine ⟨.slice (some ⟨g, 0, none⟩) (n + k) cap, w.setRow g (cur.toList.take (n * 1) ++ List.replicate k z ++ cur.toList.drop (n * 1 + (List.replicate k z).length)).toArray, ?_,
        ⟨hlen, .inr ⟨g, cap, _, rfl, hbg, setRow_heap w g cur _ e _ hg, hroom, hcm, ?_, ?_⟩⟩, ⟨rfl, rfl, rfl, by simp, fun j _ hj => setRow_other w g j _ (fun e => hj (by simp [Value.ownBlock, e]))⟩, Or.inl rfl⟩
      · simp only [Nat.add_zero, Nat.mul_one] at hst
        simp [Builtin.append_, run_underlying hs.und, run_underlying hn.und, sizeOf, typeInfo, zeroValue, hi, hzero, asInt, asIntOf, hw, hneg, h48i, hsize, hns, hroom, zeroCells_one hzc, Addr.add_lit]
        simp at hst
        rw [hst]
        simp
      · simp only [List.size_toArray, List.length_append, List.length_take, List.length_drop, Array.length_toList]
        omega
      · rw [htake, ← hlen]
        exact List.take_left
    · have holds : ∀ j u, xs[j]? = some u → w.drew.cell? ((⟨g, 0, none⟩ : Addr).add j) = some u := hown.cells (g := g) rfl
      have hf := run_firstCells_some (P := P) w.drew i.size n ⟨g, 0, none⟩ n cap xs (by rw [hsize]; exact hown.1) holds
      have hr := Lib.run_append_grow_zeros (P := P) w t tn ty e i z kq kn hs.und hn.und hi hzero (some ⟨g, 0, none⟩) n cap xs hf k h0 (by omega) (by omega) (by omega) (by rw [hby]; omega) (growslice_fits (by omega) (by rw [hby]; exact hbytes))
      have hgr := grown cap (by omega) (Value.ownBlock (.slice (some ⟨g, 0, none⟩) n cap))
      exact ⟨_, _, hr, hgr.1, hgr.2, Or.inr rfl⟩

section
variable {P : Program} {r : Option Nat} {n : Nat} {ops : Array Oper} {Q : Post} {rest : List Oper} {σ : St} {w w' w₀ : World} {S : Nat → Prop} {rs : List HP} {put : HP → List HP} {ty : TypeId} {pos : String} {after : Array Edge}
theorem FL_appendZ {d : Nat} {x y : Operand} {t tn e : TypeId} [hs : IsSlice P t e] {kn : IntKind} [hn : IsInt P tn kn] {bytes : Nat} [hc : Cells P e 1 bytes] {z : Value} [hz : Zero P e z] {v : Value} {k m : Nat} {xs : List Value} {kq : IntKind}
    (H : Sep w₀ S rs w) (hx : evF σ x = v) (hy : evF σ y = .int kq m) (hat : At rs (rowH e 1 v k xs) put) (h0 : 0 < m) (hzs : z.oneCell' = true := by exact rfl)
    (h63 : k + m ≤ maxLen) (hbytes : (k + m) * bytes ≤ 140737488355328) (hd : Nat.blt d n = true := by exact rfl)
    (h : ∀ v' w', Sep w₀ S (put (rowH e 1 v' (k + m) (xs ++ List.replicate m z))) w' → FL P r n ops Q rest (upd σ d v') w') :
    FL P r n ops Q ({ dst := some d, op := .call { callee := .builtin .append, args := #[x, y], argTypes := #[t, tn] }, type := ty, pos := pos, after := after, guard := none } :: rest) σ w := by
  obtain ⟨F, hp, _, _⟩ := H.focus hat
  obtain ⟨v', w', hrun, hown, hg, hb⟩ := run_append_zeros (P := P) (ty := ty) t tn e hzs v k xs hp.1 kq m h0 h63 hbytes
  refine FL_val (v := v') (w' := w') (fun _ _ _ _ => ?_) hd (h v' w' (H.rowTurn hat hg hown (by rcases hb with e | e <;> simp [e])))
  simp only [execOp, resolve, invoke, builtin, Sem.run_bind, Sem.run_pure, Result.andThen_ok, List.map_toArray, List.map_cons, List.map_nil, hx, hy, hrun]
end
end Go.Mw
/-
  SlotsKnown: known sequences, and slots that are none.
-/
namespace Go.Proofs.Yteflbohpabdjkaa
open Go Go.Mw
set_option maxRecDepth 8000

theorem rowBlkS {w₀ w : World} {S : Nat → Prop} {rs : List HP} {put : HP → List HP} {b E s n : Nat} {cs : List Value} (H : Sep w₀ S rs w) (hat : At rs (blk b cs E) put) (hl : cs.length = n * s) (hm : n ≤ maxLen) : RowAt w (some ⟨b, 0, none⟩) n s cs := by
  obtain ⟨l1, l2, rfl, hput⟩ := hat
  have h1 := Sep.asRow H.front At0 hl hm
  exact Sep.rowAt h1 At0
def sK (k f m : Int) : DoS := ⟨k, f, m, none, [], 0⟩
def sF (k m : Int) (b : Nat) (ks : List Int) : DoS := ⟨k, 0, m, some ⟨b, 0, none⟩, ks, ks.length⟩
theorem fitsS {k : Int} (h : (decide (-9223372036854775808 ≤ k) && decide (k ≤ 9223372036854775807)) = true) : fits k := by simpa [fits] using h
section
variable {w : World}
theorem good_sK {k f m : Int} (hk : fits k) (hf : fits f) (hm : fits m) : (sK k f m).good w := ⟨hk, hf, hm, Nat.le_refl _, RowAt.nil _ _ _⟩
theorem good_sF {k m : Int} {b : Nat} {ks : List Int} (hk : fits k) (hm : fits m) (hr : RowAt w (some ⟨b, 0, none⟩) ks.length 1 (ks.map I)) : (sF k m b ks).good w := ⟨hk, fitsS rfl, hm, Nat.le_refl _, hr⟩
theorem goodS_nil : ∀ x ∈ ([] : List DoS), x.good w := fun _ h => by cases h
theorem goodS_cons {x : DoS} {l : List DoS} (hx : x.good w) (hl : ∀ x ∈ l, x.good w) : ∀ y ∈ x :: l, y.good w := fun y hy => by
  rcases List.mem_cons.1 hy with rfl | hy
  · exact hx
  · exact hl y hy
end
def longS (bk : Nat) : List DoS := [sK 0 0 128, sK 2 0 0, sK 0 0 129, sK 2 0 0, sK 0 0 640, sK 0 0 641, sK 0 0 0, sK 2 0 0, sK 5 0 0, sK 2 0 0, sF 3 3 bk [0], sK 0 0 5, sK 0 0 5, sK 2 0 0, sK 5 0 0, sK 2 0 0, sK 4 0 0, sK 2 0 0, sK 0 0 1, sK 5 0 0, sK 2 0 0]
def sixS : List DoS := [sK 2 0 0, sK 0 9 3, sK 2 0 0, sK 0 8 2, sK 5 0 0, sK 2 0 0]
def oneS : List DoS := [sK 2 0 0]
section
variable {w w₀ : World} {S : Nat → Prop} {rs : List HP}
theorem long_good {put : HP → List HP} {bk : Nat} (H : Sep w₀ S rs w) (h1 : At rs (blk bk ([0].map I) 3) put) : ∀ x ∈ longS bk, x.good w :=
  (goodS_cons (good_sK (fitsS rfl) (fitsS rfl) (fitsS rfl)) (goodS_cons (good_sK (fitsS rfl) (fitsS rfl) (fitsS rfl)) (goodS_cons (good_sK (fitsS rfl) (fitsS rfl) (fitsS rfl)) (goodS_cons (good_sK (fitsS rfl) (fitsS rfl) (fitsS rfl)) (goodS_cons (good_sK (fitsS rfl) (fitsS rfl) (fitsS rfl)) (goodS_cons (good_sK (fitsS rfl) (fitsS rfl) (fitsS rfl)) (goodS_cons (good_sK (fitsS rfl) (fitsS rfl) (fitsS rfl)) (goodS_cons (good_sK (fitsS rfl) (fitsS rfl) (fitsS rfl)) (goodS_cons (good_sK (fitsS rfl) (fitsS rfl) (fitsS rfl)) (goodS_cons (good_sK (fitsS rfl) (fitsS rfl) (fitsS rfl)) (goodS_cons (good_sF (fitsS rfl) (fitsS rfl) (rowBlkS H h1 rfl (by show 1 ≤ maxLen; decide))) (goodS_cons (good_sK (fitsS rfl) (fitsS rfl) (fitsS rfl)) (goodS_cons (good_sK (fitsS rfl) (fitsS rfl) (fitsS rfl)) (goodS_cons (good_sK (fitsS rfl) (fitsS rfl) (fitsS rfl)) (goodS_cons (good_sK (fitsS rfl) (fitsS rfl) (fitsS rfl)) (goodS_cons (good_sK (fitsS rfl) (fitsS rfl) (fitsS rfl)) (goodS_cons (good_sK (fitsS rfl) (fitsS rfl) (fitsS rfl)) (goodS_cons (good_sK (fitsS rfl) (fitsS rfl) (fitsS rfl)) (goodS_cons (good_sK (fitsS rfl) (fitsS rfl) (fitsS rfl)) (goodS_cons (good_sK (fitsS rfl) (fitsS rfl) (fitsS rfl)) (goodS_cons (good_sK (fitsS rfl) (fitsS rfl) (fitsS rfl)) goodS_nil)))))))))))))))))))))
theorem six_good : ∀ x ∈ sixS, x.good w := (goodS_cons (good_sK (fitsS rfl) (fitsS rfl) (fitsS rfl)) (goodS_cons (good_sK (fitsS rfl) (fitsS rfl) (fitsS rfl)) (goodS_cons (good_sK (fitsS rfl) (fitsS rfl) (fitsS rfl)) (goodS_cons (good_sK (fitsS rfl) (fitsS rfl) (fitsS rfl)) (goodS_cons (good_sK (fitsS rfl) (fitsS rfl) (fitsS rfl)) (goodS_cons (good_sK (fitsS rfl) (fitsS rfl) (fitsS rfl)) goodS_nil))))))
theorem one_good : ∀ x ∈ oneS, x.good w := goodS_cons (good_sK (fitsS rfl) (fitsS rfl) (fitsS rfl)) goodS_nil
end
def rtsB : List (List UInt8) := [[0, 0, 0, 0, 0, 0, 0, 1], [0, 0, 0, 0, 0, 0, 0, 0, 0, 0, 0, 1], [0, 31, 255, 255, 255, 255, 255, 255], [0, 32, 0, 0, 0, 0, 0, 0], [0, 31, 255, 255, 255, 255, 255, 254, 0, 0, 0, 5], [1, 0, 0, 0, 0, 0, 0, 1], [128, 0, 0, 0, 0, 0, 0, 1], [0, 0, 0, 0, 0, 0, 0, 2, 0, 0, 0, 128], [0, 0, 0, 0, 0, 0, 0, 2, 0, 0, 0, 129], [0, 0, 0, 0, 0, 0, 0, 2, 255, 255, 255, 255], [0, 0, 0, 0, 0, 0, 0, 2, 128, 0, 0, 0], [0, 0, 0, 0, 0, 0, 0, 1, 0, 0, 0, 1, 1]]
def rtB (i : Nat) : List UInt8 := rtsB.getD i []
def rtv (rts : List Nat) (i : Nat) : Value := .slice (some ⟨rts.getD i 0, 0, none⟩) (rtB i).length (rtB i).length
def RootsAt (w : World) (bR : Nat) (rts : List Nat) : Prop :=
  (∃ E, w.heap[bR]? = some (.cells ((List.range 12).map (rtv rts)).toArray E (0, 0))) ∧ ∀ i, i < 12 → RowAt w (some ⟨rts.getD i 0, 0, none⟩) (rtB i).length 1 ((rtB i).map B)
theorem RootsAt.keep {w w' : World} {bR : Nat} {rts : List Nat} (h : RootsAt w bR rts) (hk : Kept noB w w') : RootsAt w' bR rts :=
  ⟨h.1.imp fun _ he => hk.get he id, fun i hi => (h.2 i hi).keep hk⟩
theorem rtv_get {rts : List Nat} {i : Nat} (h : i < 12) : ((List.range 12).map (rtv rts))[i]? = some (rtv rts i) := by
  rw [List.getElem?_map, List.getElem?_range h]; rfl
theorem rtB_len {i : Nat} (h : i < 12) : 8 ≤ (rtB i).length ∧ (rtB i).length ≤ 13 := by
  have : i = 0 ∨ i = 1 ∨ i = 2 ∨ i = 3 ∨ i = 4 ∨ i = 5 ∨ i = 6 ∨ i = 7 ∨ i = 8 ∨ i = 9 ∨ i = 10 ∨ i = 11 := by omega
  rcases this with rfl | rfl | rfl | rfl | rfl | rfl | rfl | rfl | rfl | rfl | rfl | rfl <;> exact ⟨by decide, by decide⟩
def endB : List UInt8 := ((List.replicate 128 0).set 7 1).set 127 1
theorem endB_cells : ((List.replicate 128 (Value.int .u8 0)).set 7 (.int .u8 1)).set 127 (.int .u8 1) = endB.map B := by
  unfold endB
  rw [List.map_set, List.map_set, List.map_replicate]
  rfl
theorem endB_len : endB.length = 128 := by unfold endB; rw [List.length_set, List.length_set, List.length_replicate]
set_option maxHeartbeats 4000000 in
theorem slotsKnown_ok {w : World} : Rets Try.prog 16 [] w fun v w' => v = .bool true ∧ Kept noB w w' := by
  have H := Sep.start0 w
  refine rets0 Try.func16 rfl rfl rfl ?_
  refine FW_seq ?_
  refine FW_region ?_
  refine FL_assign (h := ?_)
  refine FL_nil (Qseq_normal ?_)
  refine FW_seq ?_
  refine FW_seq ?_
  refine FW_region ?_
  refine FL_assign (h := ?_)
  refine FL_nil (Qseq_normal ?_)
  refine FW_block ?_
  refine FW_loop' (fun i : Nat => [(1, I i)]) (fun i w' => i ≤ 13 ∧ Sep w noB [] w') (fun i _ => 13 - i) 0 ⟨rfl, trivial⟩ ⟨Nat.zero_le _, H⟩ (fun i τ w4 hI => ?_)
  obtain ⟨hi, H4⟩ := hI
  try simp only [upds, like, upd_ds, und_ds]
  refine FW_seq ?_
  refine FW_seq ?_
  refine FW_region ?_
  refine FL_move (h := ?_)
  refine FL_val (Gives.lss rfl rfl) rfl ?_
  refine FL_nil (Qseq_normal ?_)
  first | refine FW_condP rfl (fun hc7 => ?_) (fun hc7 => ?_) | refine FW_cond rfl (fun hc7 => ?_) (fun hc7 => ?_)
  · skip
    have hlt : i < 13 := by omega
    refine FW_skip (Qseq_normal ?_)
    refine FW_seq ?_
    refine FW_block ?_
    refine FW_seq ?_
    refine FW_region ?_
    refine FL_move (h := ?_)
    refine FL_val (Gives.build (out := doSCells (sK 0 0 128)) (Fills.one rfl rfl rfl (by simp) rfl Fills.nil)) rfl ?_
    refine FL_val (Gives.build (out := doSCells (sK 2 0 0)) (Fills.one rfl rfl rfl (by simp) rfl Fills.nil)) rfl ?_
    refine FL_val (Gives.build (out := doSCells (sK 0 0 129)) (Fills.one rfl rfl rfl (by simp) rfl Fills.nil)) rfl ?_
    refine FL_val (Gives.build (out := doSCells (sK 2 0 0)) (Fills.one rfl rfl rfl (by simp) rfl Fills.nil)) rfl ?_
    refine FL_val (Gives.build (out := doSCells (sK 0 0 640)) (Fills.one rfl rfl rfl (by simp) rfl Fills.nil)) rfl ?_
    refine FL_val (Gives.build (out := doSCells (sK 0 0 641)) (Fills.one rfl rfl rfl (by simp) rfl Fills.nil)) rfl ?_
    refine FL_val (Gives.build (out := doSCells (sK 0 0 0)) (Fills.one rfl rfl rfl (by simp) rfl Fills.nil)) rfl ?_
    refine FL_val (Gives.build (out := doSCells (sK 2 0 0)) (Fills.one rfl rfl rfl (by simp) rfl Fills.nil)) rfl ?_
    refine FL_val (Gives.build (out := doSCells (sK 5 0 0)) (Fills.one rfl rfl rfl (by simp) rfl Fills.nil)) rfl ?_
    refine FL_val (Gives.build (out := doSCells (sK 2 0 0)) (Fills.one rfl rfl rfl (by simp) rfl Fills.nil)) rfl ?_
    refine FL_buildSlice H4 (out := [0].map I) (Elems.one rfl rfl Elems.nil) rfl rfl rfl (fun bk w21 H21 _ => ?_)
    refine FL_val (Gives.build (out := doSCells (sF 3 3 bk [0])) (Fills.one rfl rfl rfl (by simp) rfl (Fills.one rfl rfl rfl (by simp) rfl (Fills.one rfl rfl rfl (by simp) rfl Fills.nil)))) rfl ?_
    refine FL_val (Gives.build (out := doSCells (sK 0 0 5)) (Fills.one rfl rfl rfl (by simp) rfl Fills.nil)) rfl ?_
    refine FL_val (Gives.build (out := doSCells (sK 0 0 5)) (Fills.one rfl rfl rfl (by simp) rfl Fills.nil)) rfl ?_
    refine FL_val (Gives.build (out := doSCells (sK 2 0 0)) (Fills.one rfl rfl rfl (by simp) rfl Fills.nil)) rfl ?_
    refine FL_val (Gives.build (out := doSCells (sK 5 0 0)) (Fills.one rfl rfl rfl (by simp) rfl Fills.nil)) rfl ?_
    refine FL_val (Gives.build (out := doSCells (sK 2 0 0)) (Fills.one rfl rfl rfl (by simp) rfl Fills.nil)) rfl ?_
    refine FL_val (Gives.build (out := doSCells (sK 4 0 0)) (Fills.one rfl rfl rfl (by simp) rfl Fills.nil)) rfl ?_
    refine FL_val (Gives.build (out := doSCells (sK 2 0 0)) (Fills.one rfl rfl rfl (by simp) rfl Fills.nil)) rfl ?_
    refine FL_val (Gives.build (out := doSCells (sK 0 0 1)) (Fills.one rfl rfl rfl (by simp) rfl Fills.nil)) rfl ?_
    refine FL_val (Gives.build (out := doSCells (sK 5 0 0)) (Fills.one rfl rfl rfl (by simp) rfl Fills.nil)) rfl ?_
    refine FL_val (Gives.build (out := doSCells (sK 2 0 0)) (Fills.one rfl rfl rfl (by simp) rfl Fills.nil)) rfl ?_
    refine FL_buildSlice H21 (out := (longS bk).flatMap doSCells) (Elems.many (us := doSCells (sK 0 0 128)) rfl rfl (Elems.many (us := doSCells (sK 2 0 0)) rfl rfl (Elems.many (us := doSCells (sK 0 0 129)) rfl rfl (Elems.many (us := doSCells (sK 2 0 0)) rfl rfl (Elems.many (us := doSCells (sK 0 0 640)) rfl rfl (Elems.many (us := doSCells (sK 0 0 641)) rfl rfl (Elems.many (us := doSCells (sK 0 0 0)) rfl rfl (Elems.many (us := doSCells (sK 2 0 0)) rfl rfl (Elems.many (us := doSCells (sK 5 0 0)) rfl rfl (Elems.many (us := doSCells (sK 2 0 0)) rfl rfl (Elems.many (us := doSCells (sF 3 3 bk [0])) rfl rfl (Elems.many (us := doSCells (sK 0 0 5)) rfl rfl (Elems.many (us := doSCells (sK 0 0 5)) rfl rfl (Elems.many (us := doSCells (sK 2 0 0)) rfl rfl (Elems.many (us := doSCells (sK 5 0 0)) rfl rfl (Elems.many (us := doSCells (sK 2 0 0)) rfl rfl (Elems.many (us := doSCells (sK 4 0 0)) rfl rfl (Elems.many (us := doSCells (sK 2 0 0)) rfl rfl (Elems.many (us := doSCells (sK 0 0 1)) rfl rfl (Elems.many (us := doSCells (sK 5 0 0)) rfl rfl (Elems.many (us := doSCells (sK 2 0 0)) rfl rfl Elems.nil))))))))))))))))))))) rfl rfl rfl (fun bl w34 H34 _ => ?_)
    refine FL_callQ H34 (slotsPlay_any (sect := (i : Int)) (A1 := Option.none) (c1 := 0) (cl := 21) (first := []) (l := longS bk) (by unfold fits; omega) (Nat.le_refl _) (RowAt.nil _ _ _) (rowBlkS H34 At0 rfl (by show 21 ≤ maxLen; decide)) (long_good H34 At1)) (h := fun w36 H36 _ => ?_)
    first | refine FL_val (Gives.notP rfl) rfl ?_ | refine FL_val (Gives.not rfl) rfl ?_
    refine FL_nil (Qseq_normal ?_)
    first | refine FW_condP rfl (fun hc38 => ?_) (fun hc38 => ?_) | refine FW_cond rfl (fun hc38 => ?_) (fun hc38 => ?_)
    · skip
      first | exact absurd rfl hc38 | exact (hc38 trivial).elim | exact absurd hc38 (by decide) | exact absurd hc38 (by simp) | omega --done
    · skip
      refine FW_skip (Qblk_normal (Qseq_normal ?_))
      refine FW_region ?_
      refine FL_move (h := ?_)
      first | refine FL_val (Gives.addI rfl rfl rfl (by omega)) rfl ?_ | refine FL_val (Gives.add rfl rfl) rfl ?_
      refine FL_assign (h := ?_)
      refine FL_nil ?_
      exact Qround_normal (i + 1) ⟨rfl, trivial⟩ ⟨by omega, H36.drop0.drop0⟩ (by omega)
  · skip
    refine FW_exit (Qseq_exit (Qround_exit (Qblk_exit (Qseq_normal ?_))))
    refine FW_seq ?_
    refine FW_region ?_
    refine FL_buildSlice H4 (out := [0, 0, 0, 0, 0, 0, 0, 1].map B) (Elems.one rfl rfl (Elems.one rfl rfl (Elems.one rfl rfl (Elems.one rfl rfl (Elems.one rfl rfl (Elems.one rfl rfl (Elems.one rfl rfl (Elems.one rfl rfl Elems.nil)))))))) rfl rfl rfl (fun r0 w45 H45 _ => ?_)
    refine FL_buildSlice H45 (out := [0, 0, 0, 0, 0, 0, 0, 0, 0, 0, 0, 1].map B) (Elems.one rfl rfl (Elems.one rfl rfl (Elems.one rfl rfl (Elems.one rfl rfl (Elems.one rfl rfl (Elems.one rfl rfl (Elems.one rfl rfl (Elems.one rfl rfl (Elems.one rfl rfl (Elems.one rfl rfl (Elems.one rfl rfl (Elems.one rfl rfl Elems.nil)))))))))))) rfl rfl rfl (fun r1 w47 H47 _ => ?_)
    refine FL_buildSlice H47 (out := [0, 31, 255, 255, 255, 255, 255, 255].map B) (Elems.one rfl rfl (Elems.one rfl rfl (Elems.one rfl rfl (Elems.one rfl rfl (Elems.one rfl rfl (Elems.one rfl rfl (Elems.one rfl rfl (Elems.one rfl rfl Elems.nil)))))))) rfl rfl rfl (fun r2 w49 H49 _ => ?_)
    refine FL_buildSlice H49 (out := [0, 32, 0, 0, 0, 0, 0, 0].map B) (Elems.one rfl rfl (Elems.one rfl rfl (Elems.one rfl rfl (Elems.one rfl rfl (Elems.one rfl rfl (Elems.one rfl rfl (Elems.one rfl rfl (Elems.one rfl rfl Elems.nil)))))))) rfl rfl rfl (fun r3 w51 H51 _ => ?_)
    refine FL_buildSlice H51 (out := [0, 31, 255, 255, 255, 255, 255, 254, 0, 0, 0, 5].map B) (Elems.one rfl rfl (Elems.one rfl rfl (Elems.one rfl rfl (Elems.one rfl rfl (Elems.one rfl rfl (Elems.one rfl rfl (Elems.one rfl rfl (Elems.one rfl rfl (Elems.one rfl rfl (Elems.one rfl rfl (Elems.one rfl rfl (Elems.one rfl rfl Elems.nil)))))))))))) rfl rfl rfl (fun r4 w53 H53 _ => ?_)
    refine FL_buildSlice H53 (out := [1, 0, 0, 0, 0, 0, 0, 1].map B) (Elems.one rfl rfl (Elems.one rfl rfl (Elems.one rfl rfl (Elems.one rfl rfl (Elems.one rfl rfl (Elems.one rfl rfl (Elems.one rfl rfl (Elems.one rfl rfl Elems.nil)))))))) rfl rfl rfl (fun r5 w55 H55 _ => ?_)
    refine FL_buildSlice H55 (out := [128, 0, 0, 0, 0, 0, 0, 1].map B) (Elems.one rfl rfl (Elems.one rfl rfl (Elems.one rfl rfl (Elems.one rfl rfl (Elems.one rfl rfl (Elems.one rfl rfl (Elems.one rfl rfl (Elems.one rfl rfl Elems.nil)))))))) rfl rfl rfl (fun r6 w57 H57 _ => ?_)
    refine FL_buildSlice H57 (out := [0, 0, 0, 0, 0, 0, 0, 2, 0, 0, 0, 128].map B) (Elems.one rfl rfl (Elems.one rfl rfl (Elems.one rfl rfl (Elems.one rfl rfl (Elems.one rfl rfl (Elems.one rfl rfl (Elems.one rfl rfl (Elems.one rfl rfl (Elems.one rfl rfl (Elems.one rfl rfl (Elems.one rfl rfl (Elems.one rfl rfl Elems.nil)))))))))))) rfl rfl rfl (fun r7 w59 H59 _ => ?_)
    refine FL_buildSlice H59 (out := [0, 0, 0, 0, 0, 0, 0, 2, 0, 0, 0, 129].map B) (Elems.one rfl rfl (Elems.one rfl rfl (Elems.one rfl rfl (Elems.one rfl rfl (Elems.one rfl rfl (Elems.one rfl rfl (Elems.one rfl rfl (Elems.one rfl rfl (Elems.one rfl rfl (Elems.one rfl rfl (Elems.one rfl rfl (Elems.one rfl rfl Elems.nil)))))))))))) rfl rfl rfl (fun r8 w61 H61 _ => ?_)
    refine FL_buildSlice H61 (out := [0, 0, 0, 0, 0, 0, 0, 2, 255, 255, 255, 255].map B) (Elems.one rfl rfl (Elems.one rfl rfl (Elems.one rfl rfl (Elems.one rfl rfl (Elems.one rfl rfl (Elems.one rfl rfl (Elems.one rfl rfl (Elems.one rfl rfl (Elems.one rfl rfl (Elems.one rfl rfl (Elems.one rfl rfl (Elems.one rfl rfl Elems.nil)))))))))))) rfl rfl rfl (fun r9 w63 H63 _ => ?_)
    refine FL_buildSlice H63 (out := [0, 0, 0, 0, 0, 0, 0, 2, 128, 0, 0, 0].map B) (Elems.one rfl rfl (Elems.one rfl rfl (Elems.one rfl rfl (Elems.one rfl rfl (Elems.one rfl rfl (Elems.one rfl rfl (Elems.one rfl rfl (Elems.one rfl rfl (Elems.one rfl rfl (Elems.one rfl rfl (Elems.one rfl rfl (Elems.one rfl rfl Elems.nil)))))))))))) rfl rfl rfl (fun r10 w65 H65 _ => ?_)
    refine FL_buildSlice H65 (out := [0, 0, 0, 0, 0, 0, 0, 1, 0, 0, 0, 1, 1].map B) (Elems.one rfl rfl (Elems.one rfl rfl (Elems.one rfl rfl (Elems.one rfl rfl (Elems.one rfl rfl (Elems.one rfl rfl (Elems.one rfl rfl (Elems.one rfl rfl (Elems.one rfl rfl (Elems.one rfl rfl (Elems.one rfl rfl (Elems.one rfl rfl (Elems.one rfl rfl Elems.nil))))))))))))) rfl rfl rfl (fun r11 w67 H67 _ => ?_)
    refine FL_buildSlice H67 (out := (List.range 12).map (rtv [r0, r1, r2, r3, r4, r5, r6, r7, r8, r9, r10, r11])) (Elems.one rfl rfl (Elems.one rfl rfl (Elems.one rfl rfl (Elems.one rfl rfl (Elems.one rfl rfl (Elems.one rfl rfl (Elems.one rfl rfl (Elems.one rfl rfl (Elems.one rfl rfl (Elems.one rfl rfl (Elems.one rfl rfl (Elems.one rfl rfl Elems.nil)))))))))))) rfl rfl rfl (fun bR w69 H69 _ => ?_)
    refine FL_assign (h := ?_)
    refine FL_nil (Qseq_normal ?_)
    refine FW_seq ?_
    refine FW_seq ?_
    refine FW_region ?_
    refine FL_assign (h := ?_)
    refine FL_nil (Qseq_normal ?_)
    refine FW_block ?_
    have hRoots : RootsAt w69 bR [r0, r1, r2, r3, r4, r5, r6, r7, r8, r9, r10, r11] := by
      refine ⟨⟨_, H69.obj At0⟩, fun i hi => ?_⟩
      have : i = 0 ∨ i = 1 ∨ i = 2 ∨ i = 3 ∨ i = 4 ∨ i = 5 ∨ i = 6 ∨ i = 7 ∨ i = 8 ∨ i = 9 ∨ i = 10 ∨ i = 11 := by omega
      rcases this with rfl | rfl | rfl | rfl | rfl | rfl | rfl | rfl | rfl | rfl | rfl | rfl
      · exact rowBlkS (H69.drop0.drop0.drop0) At9 rfl (by decide)
      · exact rowBlkS (H69.drop0.drop0) At9 rfl (by decide)
      · exact rowBlkS (H69.drop0) At9 rfl (by decide)
      · exact rowBlkS H69 At9 rfl (by decide)
      · exact rowBlkS H69 At8 rfl (by decide)
      · exact rowBlkS H69 At7 rfl (by decide)
      · exact rowBlkS H69 At6 rfl (by decide)
      · exact rowBlkS H69 At5 rfl (by decide)
      · exact rowBlkS H69 At4 rfl (by decide)
      · exact rowBlkS H69 At3 rfl (by decide)
      · exact rowBlkS H69 At2 rfl (by decide)
      · exact rowBlkS H69 At1 rfl (by decide)
    obtain ⟨rts, hrts⟩ : ∃ rts, rts = [r0, r1, r2, r3, r4, r5, r6, r7, r8, r9, r10, r11] := ⟨_, rfl⟩
    rw [← hrts] at hRoots
    have H73 := H69.drop0.drop0.drop0.drop0.drop0.drop0.drop0.drop0.drop0.drop0.drop0.drop0.drop0
    refine FW_loop' (fun i : Nat => [(2, .slice (some ⟨bR, 0, none⟩) 12 12), (3, I i)]) (fun i w' => i ≤ 12 ∧ RootsAt w' bR rts ∧ Sep w noB [] w') (fun i _ => 12 - i) 0 ⟨rfl, rfl, trivial⟩ ⟨Nat.zero_le _, hRoots, H73⟩ (fun i τ w73 hI => ?_)
    obtain ⟨hi, hR, HB⟩ := hI
    obtain ⟨E, hRb⟩ := hR.1
    have H73 := Sep.start0 w73
    try simp only [upds, like, upd_ds]
    refine FW_seq ?_
    refine FW_seq ?_
    refine FW_region ?_
    refine FL_move (h := ?_)
    refine FL_move (h := ?_)
    refine FL_val (Gives.lenSlice rfl) rfl ?_
    refine FL_val (Gives.lss rfl rfl) rfl ?_
    refine FL_nil (Qseq_normal ?_)
    first | refine FW_condP rfl (fun hc78 => ?_) (fun hc78 => ?_) | refine FW_cond rfl (fun hc78 => ?_) (fun hc78 => ?_)
    · skip
      have hlt : i < 12 := by omega
      have hl8 := rtB_len hlt
      refine FW_skip (Qseq_normal ?_)
      refine FW_seq ?_
      refine FW_block ?_
      refine FW_seq ?_
      refine FW_region ?_
      refine FL_move (h := ?_)
      refine FL_move (h := ?_)
      refine FL_val (Gives.idxB rfl rfl hlt) rfl ?_
      refine FL_val (Gives.load1 rfl hRb (rtv_get hlt)) rfl ?_
      refine FL_val (Gives.build (out := doSCells (sK 2 0 0)) (Fills.one rfl rfl rfl (by simp) rfl Fills.nil)) rfl ?_
      refine FL_val (Gives.build (out := doSCells (sK 0 9 3)) (Fills.one rfl rfl rfl (by simp) rfl (Fills.one rfl rfl rfl (by simp) rfl Fills.nil))) rfl ?_
      refine FL_val (Gives.build (out := doSCells (sK 2 0 0)) (Fills.one rfl rfl rfl (by simp) rfl Fills.nil)) rfl ?_
      refine FL_val (Gives.build (out := doSCells (sK 0 8 2)) (Fills.one rfl rfl rfl (by simp) rfl (Fills.one rfl rfl rfl (by simp) rfl Fills.nil))) rfl ?_
      refine FL_val (Gives.build (out := doSCells (sK 5 0 0)) (Fills.one rfl rfl rfl (by simp) rfl Fills.nil)) rfl ?_
      refine FL_val (Gives.build (out := doSCells (sK 2 0 0)) (Fills.one rfl rfl rfl (by simp) rfl Fills.nil)) rfl ?_
      refine FL_buildSlice H73 (out := sixS.flatMap doSCells) (Elems.many (us := doSCells (sK 2 0 0)) rfl rfl (Elems.many (us := doSCells (sK 0 9 3)) rfl rfl (Elems.many (us := doSCells (sK 2 0 0)) rfl rfl (Elems.many (us := doSCells (sK 0 8 2)) rfl rfl (Elems.many (us := doSCells (sK 5 0 0)) rfl rfl (Elems.many (us := doSCells (sK 2 0 0)) rfl rfl Elems.nil)))))) rfl rfl rfl (fun bl w91 H91 kA => ?_)
      refine FL_callQ H91 (slotsPlay_any (sect := 4) (cl := 6) (l := sixS) (fitsS rfl) (Nat.le_refl _) ((hR.2 i hlt).keep kA) (rowBlkS H91 At0 rfl (by show 6 ≤ maxLen; decide)) six_good) (h := fun w93 H93 kB => ?_)
      first | refine FL_val (Gives.notP rfl) rfl ?_ | refine FL_val (Gives.not rfl) rfl ?_
      refine FL_move (h := ?_)
      first | refine FL_splitP (t := 73) rfl (fun hs96 => ?_) (fun hs96 => ?_) | refine FL_split (t := 73) rfl (fun hs96 => ?_) (fun hs96 => ?_)
      · skip
        first | exact absurd rfl hs96 | exact (hs96 trivial).elim | exact absurd hs96 (by decide) | exact absurd hs96 (by simp) | omega --done
      · skip
        refine FL_on rfl rfl ?_
        refine FL_buildSlice H93 (out := []) Elems.nil rfl rfl rfl (fun b0 w99 H99 kC => ?_)
        refine FL_on rfl rfl ?_
        refine FL_move (h := ?_)
        refine FL_on rfl rfl ?_
        refine FL_move (h := ?_)
        refine FL_on rfl rfl ?_
        refine FL_val (Gives.idxB rfl rfl hlt) rfl ?_
        refine FL_on rfl rfl ?_
        have hkC := (kA.trans0 kB).trans0 kC
        refine FL_val (Gives.load1 rfl (hkC.get hRb id) (rtv_get hlt)) rfl ?_
        refine FL_on rfl rfl ?_
        have HA := Sep.asRow H99 At0 (s := 1) (n := 0) rfl (Nat.zero_le _)
        refine FL_append HA (k := 0) (m := (rtB i).length) (hx := rfl) (hy := rfl) At0 ((hR.2 i hlt).keep hkC) (fun u hu => by obtain ⟨c, _, rfl⟩ := List.mem_map.1 hu; rfl) (hzs := rfl) (h63 := by unfold maxLen; omega) (hbytes := by omega) (h := ?_)
        intro v1 w105 H105
        refine FL_on rfl rfl ?_
        refine FL_appendZ H105 (m := 115) (hx := rfl) (hy := rfl) At0 (by decide) (h63 := by unfold maxLen; omega) (hbytes := by omega) (h := ?_)
        intro v2 w107 H107
        obtain ⟨A2, c2, rfl, hc2, hl2, _⟩ := Sep.rowForm H107 At0
        refine FL_on rfl rfl ?_
        refine FL_val (Gives.build (out := doSCells (sK 2 0 0)) (Fills.one rfl rfl rfl (by simp) rfl Fills.nil)) rfl ?_
        refine FL_on rfl rfl ?_
        refine FL_buildSlice H107 (out := oneS.flatMap doSCells) (Elems.many (us := doSCells (sK 2 0 0)) rfl rfl Elems.nil) rfl rfl rfl (fun b1 w110 H110 _ => ?_)
        refine FL_on rfl rfl ?_
        have hz : ([] ++ (rtB i).map B ++ List.replicate 115 (Value.int .u8 0)) = (rtB i ++ List.replicate 115 (0 : UInt8)).map B := by
          rw [List.nil_append, List.map_append, List.map_replicate]; rfl
        have hzl : (rtB i ++ List.replicate 115 (0 : UInt8)).length = 0 + (rtB i).length + 115 := by rw [List.length_append, List.length_replicate]; omega
        have hrow := Sep.rowAt H110 At1
        rw [hz, ← hzl] at hrow
        have hp := slotsPlay_any (sect := 5) (A1 := A2) (c1 := c2) (cl := 1) (first := rtB i ++ List.replicate 115 (0 : UInt8)) (l := oneS) (fitsS rfl) (by rw [hzl]; exact hc2) hrow (rowBlkS H110 At0 rfl (by show 1 ≤ maxLen; decide)) one_good
        rw [hzl] at hp
        refine FL_callQ H110 hp (h := fun w112 H112 _ => ?_)
        refine FL_on rfl rfl ?_
        first | refine FL_val (Gives.notP rfl) rfl ?_ | refine FL_val (Gives.not rfl) rfl ?_
        refine FL_pickF (h := ?_)
        refine FL_nil (Qseq_normal ?_)
        first | refine FW_condP rfl (fun hc115 => ?_) (fun hc115 => ?_) | refine FW_cond rfl (fun hc115 => ?_) (fun hc115 => ?_)
        · skip
          first | exact absurd rfl hc115 | exact (hc115 trivial).elim | exact absurd hc115 (by decide) | exact absurd hc115 (by simp) | omega --done
        · skip
          refine FW_skip (Qblk_normal (Qseq_normal ?_))
          refine FW_region ?_
          refine FL_move (h := ?_)
          first | refine FL_val (Gives.addI rfl rfl rfl (by omega)) rfl ?_ | refine FL_val (Gives.add rfl rfl) rfl ?_
          refine FL_assign (h := ?_)
          refine FL_nil ?_
          exact Qround_normal (i + 1) ⟨rfl, rfl, trivial⟩ ⟨by omega, hR.keep H112.kept, HB.keep H112.kept⟩ (by omega)
    · skip
      have H122 := HB
      refine FW_exit (Qseq_exit (Qround_exit (Qblk_exit (Qseq_normal ?_))))
      refine FW_seq ?_
      refine FW_region ?_
      refine FL_make1 H122 (k := 128) (by unfold maxLen; omega) (by omega) (h := ?_)
      intro be w124 H124 _
      refine FL_assign (h := ?_)
      refine FL_nil (Qseq_normal ?_)
      refine FW_seq ?_
      refine FW_region ?_
      refine FL_move (h := ?_)
      refine FL_val (Gives.idxB (i := 7) rfl rfl (by omega)) rfl ?_
      refine FL_store H124 (hy := by exact rfl) (hat := At0) (ho := by rw [List.length_replicate]; exact rfl) (hs := rfl) (h := ?_)
      intro w129 H129
      refine FL_nil (Qseq_normal ?_)
      refine FW_seq ?_
      refine FW_region ?_
      refine FL_move (h := ?_)
      refine FL_val (Gives.idxB (i := 127) rfl rfl (by omega)) rfl ?_
      refine FL_store H129 (hy := by exact rfl) (hat := At0) (ho := by rw [List.length_set, List.length_replicate]; exact rfl) (hs := endB_cells) (h := ?_)
      intro w133 H133
      refine FL_nil (Qseq_normal ?_)
      refine FW_seq ?_
      refine FW_region ?_
      refine FL_assign (h := ?_)
      refine FL_nil (Qseq_normal ?_)
      refine FW_seq ?_
      refine FW_seq ?_
      refine FW_region ?_
      refine FL_assign (h := ?_)
      refine FL_nil (Qseq_normal ?_)
      refine FW_block ?_
      refine FW_loop' (fun x : Nat × Value => [(4, .slice (some ⟨be, 0, none⟩) 128 128), (5, x.2), (6, I x.1)])
        (fun x w' => (x.1 ≤ 2 ∧ NoSlots w' x.2 ∧ x.2.cells = #[x.2]) ∧ Sep w noB [blk be (endB.map B) 5] w') (fun x _ => 2 - x.1) (0, .pointer none) ⟨rfl, rfl, rfl, trivial⟩ ⟨⟨Nat.zero_le _, .inl rfl, rfl⟩, H133⟩ (fun x τ w137 hI => ?_)
      obtain ⟨n5, u⟩ := x
      obtain ⟨⟨hn5, hd, hu⟩, H137⟩ := hI
      try simp only [upds, like, upd_ds]
      refine FW_seq ?_
      refine FW_seq ?_
      refine FW_region ?_
      refine FL_move (h := ?_)
      refine FL_val (Gives.lss rfl rfl) rfl ?_
      refine FL_nil (Qseq_normal ?_)
      first | refine FW_condP rfl (fun hc140 => ?_) (fun hc140 => ?_) | refine FW_cond rfl (fun hc140 => ?_) (fun hc140 => ?_)
      · skip
        refine FW_skip (Qseq_normal ?_)
        refine FW_seq ?_
        refine FW_block ?_
        refine FW_seq ?_
        refine FW_region ?_
        refine FL_move (h := ?_)
        refine FL_callS hd.load (h := ?_)
        refine FL_move (h := ?_)
        refine FL_val (Gives.extract rfl rfl) rfl ?_
        refine FL_val (Gives.extract rfl rfl) rfl ?_
        refine FL_assign (h := ?_)
        refine FL_assign (h := ?_)
        refine FL_nil (Qseq_normal ?_)
        refine FW_seq ?_
        refine FW_seq ?_
        refine FW_region ?_
        refine FL_move (h := ?_)
        refine FL_val (Gives.neq rfl rfl) rfl ?_
        refine FL_move (h := ?_)
        first | refine FL_splitP (t := 102) rfl (fun hs151 => ?_) (fun hs151 => ?_) | refine FL_split (t := 102) rfl (fun hs151 => ?_) (fun hs151 => ?_)
        · skip
          first | exact absurd rfl hs151 | exact (hs151 trivial).elim | exact absurd hs151 (by decide) | exact absurd hs151 (by simp) | omega --done
        · skip
          refine FL_on rfl rfl ?_
          refine FL_move (h := ?_)
          refine FL_on rfl rfl ?_
          have hsv := hd.save (.slice Option.none 0 0) hu
          refine FL_callQ H137 hsv (h := fun w155 H155 kS => ?_)
          have hd := hd.keep kS
          refine FL_on rfl rfl ?_
          refine FL_val (Gives.neq rfl rfl) rfl ?_
          refine FL_pickF (h := ?_)
          refine FL_move (h := ?_)
          first | refine FL_splitP (t := 107) rfl (fun hs159 => ?_) (fun hs159 => ?_) | refine FL_split (t := 107) rfl (fun hs159 => ?_) (fun hs159 => ?_)
          · skip
            first | exact absurd rfl hs159 | exact (hs159 trivial).elim | exact absurd hs159 (by decide) | exact absurd hs159 (by simp) | omega --done
          · skip
            refine FL_on rfl rfl ?_
            refine FL_move (h := ?_)
            refine FL_on rfl rfl ?_
            refine FL_callS hd.number (h := ?_)
            refine FL_on rfl rfl ?_
            refine FL_val (Gives.neq rfl rfl) rfl ?_
            refine FL_pickF (h := ?_)
            refine FL_move (h := ?_)
            first | refine FL_splitP (t := 112) rfl (fun hs166 => ?_) (fun hs166 => ?_) | refine FL_split (t := 112) rfl (fun hs166 => ?_) (fun hs166 => ?_)
            · skip
              first | exact absurd rfl hs166 | exact (hs166 trivial).elim | exact absurd hs166 (by decide) | exact absurd hs166 (by simp) | omega --done
            · skip
              refine FL_on rfl rfl ?_
              refine FL_move (h := ?_)
              refine FL_on rfl rfl ?_
              refine FL_callS hd.room (h := ?_)
              refine FL_on rfl rfl ?_
              refine FL_val (Gives.neq rfl rfl) rfl ?_
              refine FL_pickF (h := ?_)
              refine FL_nil (Qseq_normal ?_)
              first | refine FW_condP rfl (fun hc172 => ?_) (fun hc172 => ?_) | refine FW_cond rfl (fun hc172 => ?_) (fun hc172 => ?_)
              · skip
                first | exact absurd rfl hc172 | exact (hc172 trivial).elim | exact absurd hc172 (by decide) | exact absurd hc172 (by simp) | omega --done
              · skip
                refine FW_skip (Qseq_normal ?_)
                refine FW_region ?_
                refine FL_val (Gives.build Fills.nil) rfl ?_
                refine FL_box H155 (h := fun bz w176 H176 _ => ?_)
                refine FL_assign (h := ?_)
                refine FL_nil (Qblk_normal (Qseq_normal ?_))
                refine FW_region ?_
                refine FL_move (h := ?_)
                first | refine FL_val (Gives.addI rfl rfl rfl (by omega)) rfl ?_ | refine FL_val (Gives.add rfl rfl) rfl ?_
                refine FL_assign (h := ?_)
                refine FL_nil ?_
                exact Qround_normal (n5 + 1, .pointer (some ⟨bz, 0, none⟩)) ⟨rfl, rfl, rfl, trivial⟩ ⟨⟨by show n5 + 1 ≤ 2; omega, .inr ⟨bz, _, rfl, H176.obj At0, rfl⟩, rfl⟩, H176.drop0⟩ (by show 2 - (n5 + 1) < 2 - n5; omega)
      · skip
        refine FW_exit (Qseq_exit (Qround_exit (Qblk_exit (Qseq_normal ?_))))
        refine FW_seq ?_
        refine FW_region ?_
        refine FL_val (Gives.build Fills.nil) rfl ?_
        refine FL_box H137 (h := fun bo w184 H184 _ => ?_)
        refine FL_callS (openS_zero (.inr ⟨bo, _, rfl, H184.obj At0, rfl⟩)) (h := ?_)
        refine FL_move (h := ?_)
        refine FL_val (Gives.extract rfl rfl) rfl ?_
        refine FL_val (Gives.extract rfl rfl) rfl ?_
        refine FL_assign (h := ?_)
        refine FL_assign (h := ?_)
        refine FL_nil (Qseq_normal ?_)
        refine FW_seq ?_
        refine FW_region ?_
        refine FL_move (h := ?_)
        refine FL_on rfl rfl ?_
        refine FL_callQ H184 worksS_ok (h := fun w193 H193 _ => ?_)
        refine FL_pickT (h := ?_)
        refine FL_move (h := ?_)
        first | refine FL_splitP (t := 128) rfl (fun hs196 => ?_) (fun hs196 => ?_) | refine FL_split (t := 128) rfl (fun hs196 => ?_) (fun hs196 => ?_)
        · skip
          refine FL_on rfl rfl ?_
          refine FL_move (h := ?_)
          refine FL_on rfl rfl ?_
          refine FL_callQ H193 (slotsPlay_any (sect := 5) (A1 := some ⟨be, 0, none⟩) (c1 := 128) (cl := 0) (first := endB) (L := Option.none) (l := []) (fitsS rfl) (by rw [endB_len]; omega) (rowBlkS H193 At1 (by rw [List.length_map]; exact (Nat.mul_one _).symm) (by rw [endB_len]; unfold maxLen; omega)) (RowAt.nil _ _ _) goodS_nil) (hv := by rw [endB_len]; rfl) (h := fun w199 H199 _ => ?_)
          refine FL_pickT (h := ?_)
          refine FL_move (h := ?_)
          first | refine FL_splitP (t := 132) rfl (fun hs202 => ?_) (fun hs202 => ?_) | refine FL_split (t := 132) rfl (fun hs202 => ?_) (fun hs202 => ?_)
          · skip
            refine FL_on rfl rfl ?_
            refine FL_move (h := ?_)
            refine FL_on rfl rfl ?_
            refine FL_val (Gives.eql rfl rfl) rfl ?_
            refine FL_pickT (h := ?_)
            refine FL_assign (h := ?_)
            refine FL_nil (Qseq_normal ?_)
            refine FW_ret (Qfn_ret (hR := ?_))
            exact ⟨rfl, H199.kept⟩
          · skip
            first | exact absurd rfl hs202 | exact (hs202 trivial).elim | exact absurd hs202 (by decide) | exact absurd hs202 (by simp) | omega --done
        · skip
          first | exact absurd rfl hs196 | exact (hs196 trivial).elim | exact absurd hs196 (by decide) | exact absurd hs196 (by simp) | omega --done
end Go.Proofs.Yteflbohpabdjkaa
