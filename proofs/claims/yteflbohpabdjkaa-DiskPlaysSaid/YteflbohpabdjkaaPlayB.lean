/-
  EqInts on equal rows, walked.
-/
import Derived.Test.YteflbohpabdjkaaPlayM
namespace Go.Proofs.Yteflbohpabdjkaa
open Go Go.Mw
set_option maxRecDepth 8000

section
variable {w w₀ : World} {S : Nat → Prop} {rs : List HP}
theorem eqInts_ok {A A' : Option Addr} {c c' : Nat} {l : List Int} (ha : RowAt w A l.length 1 (l.map I)) (hb : RowAt w A' l.length 1 (l.map I)) (hl : l.length ≤ 1000000) :
    Rets Try.prog 43 [.slice A l.length c, .slice A' l.length c'] w fun v w' => v = .bool true ∧ Kept noB w w' := by
  have H := Sep.start0 w
  refine rets2 Try.func43 rfl rfl rfl rfl ?_
  refine FW_seq ?_
  refine FW_region ?_
  refine FL_assign (h := ?_)
  refine FL_nil (Qseq_normal ?_)
  refine FW_seq ?_
  refine FW_seq ?_
  refine FW_region ?_
  refine FL_move (h := ?_)
  refine FL_val (Gives.lenSlice rfl) rfl ?_
  refine FL_move (h := ?_)
  refine FL_val (Gives.lenSlice rfl) rfl ?_
  refine FL_val (Gives.neq rfl rfl) rfl ?_
  refine FL_nil (Qseq_normal ?_)
  first | refine FW_condP rfl (fun hc7 => ?_) (fun hc7 => ?_) | refine FW_cond rfl (fun hc7 => ?_) (fun hc7 => ?_)
  · skip
    exact absurd hc7 (by simp) --done
  · skip
    refine FW_skip (Qseq_normal ?_)
    refine FW_seq ?_
    refine FW_seq ?_
    refine FW_region ?_
    refine FL_assign (h := ?_)
    refine FL_nil (Qseq_normal ?_)
    refine FW_block ?_
    refine FW_loop' (fun i : Nat => [(0, .slice A l.length c), (1, .slice A' l.length c'), (5, I i)]) (fun i w' => i ≤ l.length ∧ Sep w noB [] w') (fun i _ => l.length - i) 0 ⟨rfl, rfl, rfl, trivial⟩ ⟨Nat.zero_le _, H⟩ (fun i τ w11 hI => ?_)
    obtain ⟨hi, H11⟩ := hI
    try simp only [upds, like, upd_ds, und_ds]
    refine FW_seq ?_
    refine FW_seq ?_
    refine FW_region ?_
    refine FL_move (h := ?_)
    refine FL_move (h := ?_)
    refine FL_val (Gives.lenSlice rfl) rfl ?_
    refine FL_val (Gives.lss rfl rfl) rfl ?_
    refine FL_nil (Qseq_normal ?_)
    first | refine FW_condP rfl (fun hc16 => ?_) (fun hc16 => ?_) | refine FW_cond rfl (fun hc16 => ?_) (fun hc16 => ?_)
    · skip
      have hlt : i < l.length := by omega
      obtain ⟨a1, hA1, _⟩ := ha.at_ (by omega)
      obtain ⟨b1, hB1, _⟩ := hb.at_ (by omega)
      subst hA1 hB1
      have hcell : ∀ j u, [I l[i]][j]? = some u → (l.map I)[i * 1 + j]? = some u := by
        intro j u hj
        cases j with
        | zero => simpa [hlt] using hj
        | succ j => simp at hj
      refine FW_skip (Qseq_normal ?_)
      refine FW_seq ?_
      refine FW_block ?_
      refine FW_seq ?_
      refine FW_drawS rfl H11 (h := fun hok18 w20 H20 => ?_)
      refine FGmove hok18 0 (h := ?_)
      refine FGmove hok18 1 (h := ?_)
      refine FGp hok18 2 rfl rfl (fun _ => (Gives.idx rfl rfl hlt)) (by kernel_rfl) ?_
      refine FGl hok18 3 rfl rfl (Gives.loadC rfl ((ha.keep H20.kept).elemC rfl i hlt (us := [I l[i]]) hcell 0 _ rfl)) (by kernel_rfl) ?_
      refine FGmove hok18 4 (h := ?_)
      refine FGmove hok18 5 (h := ?_)
      refine FGp hok18 6 rfl rfl (fun _ => (Gives.idx rfl rfl hlt)) (by kernel_rfl) ?_
      refine FGl hok18 7 rfl rfl (Gives.loadC rfl ((hb.keep H20.kept).elemC rfl i hlt (us := [I l[i]]) hcell 0 _ rfl)) (by kernel_rfl) ?_
      refine FGp hok18 8 rfl rfl (fun _ => (Gives.neq rfl rfl)) (by kernel_rfl) ?_
      refine FG_end hok18 (by kernel_rfl) ?_
      refine Qseq_normal ?_
      first | refine FW_condP rfl (fun hc26 => ?_) (fun hc26 => ?_) | refine FW_cond rfl (fun hc26 => ?_) (fun hc26 => ?_)
      · skip
        exact absurd hc26 (by simp) --done
      · skip
        refine FW_skip (Qblk_normal (Qseq_normal ?_))
        refine FW_region ?_
        refine FL_move (h := ?_)
        first | refine FL_val (Gives.addI rfl rfl rfl (by omega)) rfl ?_ | refine FL_val (Gives.add rfl rfl) rfl ?_
        refine FL_assign (h := ?_)
        refine FL_nil ?_
        exact Qround_normal (i + 1) ⟨rfl, rfl, rfl, trivial⟩ ⟨by omega, H20⟩ (by omega)
    · skip
      refine FW_exit (Qseq_exit (Qround_exit (Qblk_exit (Qseq_normal ?_))))
      refine FW_seq ?_
      refine FW_region ?_
      refine FL_assign (h := ?_)
      refine FL_nil (Qseq_normal ?_)
      refine FW_ret (Qfn_ret (hR := ?_))
      exact ⟨rfl, H11.kept⟩
end
end Go.Proofs.Yteflbohpabdjkaa
