/-
  told: both disks read the same; walked.
-/
import Derived.Test.YteflbohpabdjkaaSimM
namespace Go.Proofs.Yteflbohpabdjkaa
open Go Go.Mw
set_option maxRecDepth 8000

section
variable {p q : Nat} {d : DM} {a : AM} {F : Nat → Prop} {w w₀ : World} {S : Nat → Prop} {rs : List HP} {put : HP → List HP}
theorem size_at {k : Int} (H : Sep w₀ S rs w) (hat : At rs (diskH p d) put) (hb : d.size = k) : Rets Try.prog 45 [.pointer (some ⟨p, 0, none⟩)] w fun v w' => v = I k ∧ w = w' := by
  obtain ⟨F, hp, _⟩ := H.focus hat
  rw [← hb]
  exact size_ok hp
theorem readR_at (hs : a.small 100000) (H : Sep w₀ S rs w) (hat : At rs (refA q a) put) (at_ : Int) :
    Rets Try.prog 38 [.pointer (some ⟨q, 0, none⟩), I at_] w fun v w' => ∃ s, v = .tuple #[s, I (a.read at_).2] ∧ True ∧ Turn noB (rowH 5 1 s ((a.read at_).1.getD []).length (((a.read at_).1.getD []).map B)) w w' := by
  obtain ⟨F, hp, _⟩ := H.focus hat
  exact readR_ok hs hp
theorem read_len {d : DM} (hwf : d.wf) (k : Int) : ((d.read k).1.getD []).length ≤ 128 := by
  unfold DM.read
  split
  · exact Nat.zero_le _
  · exact Nat.le_of_eq (DM.sec_length hwf k)
theorem told_ok (hsim : Sim d a) (hs : a.small 100000) {F1 F2 : Nat → Prop} (h1 : (diskH p d).ok F1 w) (h2 : (refA q a).ok F2 w) :
    Rets Try.prog 44 [.pointer (some ⟨p, 0, none⟩), .pointer (some ⟨q, 0, none⟩)] w fun v w' => v = .bool true ∧ Kept noB w w' := by
  have H := Sep.start0 w
  obtain ⟨m, hm, vk, vo, ve, pool, hok, hb, _⟩ := refFacts h2
  subst hm
  refine rets2 Try.func44 rfl rfl rfl rfl ?_
  refine FW_seq ?_
  refine FW_region ?_
  refine FL_assign (h := ?_)
  refine FL_nil (Qseq_normal ?_)
  refine FW_seq ?_
  refine FW_seq ?_
  refine FW_drawS rfl H (h := fun hok2 w4 H4 => ?_)
  refine FGmove hok2 0 (h := ?_)
  refine FGmove hok2 2 (h := ?_)
  refine FGp hok2 3 rfl rfl (fun _ => (Gives.nilCheck rfl)) (by kernel_rfl) ?_
  first | refine FGp hok2 4 rfl rfl (fun _ => (Gives.field0 rfl)) (by kernel_rfl) ?_ | refine FGp hok2 4 rfl rfl (fun _ => (Gives.field rfl)) (by kernel_rfl) ?_ | refine FGp hok2 4 rfl rfl (fun _ => (Gives.fieldA rfl)) (by kernel_rfl) ?_
  refine FGl hok2 5 rfl rfl (Gives.load1 rfl (H4.kept.get hb id) rfl) (by kernel_rfl) ?_
  refine FGcallS hok2 1 [(5, false), (4, true), (3, true), (2, true)] H4 (size_ok (HP.stay h1 H4.kept)) (h := fun w9 H9 => ⟨(Stab_cons rfl rfl (Gives.load1 rfl (H9.kept.get hb id) rfl) rfl (Stab_pure (Stab_pure (Stab_pure (Stab_nil))))), ?_⟩)
  refine FGp hok2 6 rfl rfl (fun _ => (Gives.neq rfl rfl)) (by kernel_rfl) ?_
  refine FGmove hok2 7 (h := ?_)
  first | refine FG_splitP (t := 18) rfl (fun hs11 => ?_) (fun hs11 => ?_) | refine FG_split (t := 18) rfl (fun hs11 => ?_) (fun hs11 => ?_)
  · skip
    exact absurd hsim.size hs11 --done
  · skip
    refine FGmove hok2 8 (h := ?_)
    refine FGmove hok2 10 (h := ?_)
    refine FGp hok2 11 rfl rfl (fun _ => (Gives.nilCheck rfl)) (by kernel_rfl) ?_
    first | refine FGp hok2 12 rfl rfl (fun _ => (Gives.field0 rfl)) (by kernel_rfl) ?_ | refine FGp hok2 12 rfl rfl (fun _ => (Gives.field rfl)) (by kernel_rfl) ?_ | refine FGp hok2 12 rfl rfl (fun _ => (Gives.fieldA rfl)) (by kernel_rfl) ?_
    refine FGl hok2 13 rfl rfl (Gives.load1 rfl (H9.kept.get hb id) rfl) (by kernel_rfl) ?_
    refine FGcallS hok2 9 [(13, false), (12, true), (11, true), (10, true)] H9 (alive_ok (HP.stay h1 H9.kept)) (h := fun w17 H17 => ⟨(Stab_cons rfl rfl (Gives.load1 rfl (H17.kept.get hb id) rfl) rfl (Stab_pure (Stab_pure (Stab_pure (Stab_nil))))), ?_⟩)
    refine FGp hok2 14 rfl rfl (fun _ => (Gives.eqlB rfl rfl)) (by kernel_rfl) ?_
    refine FGp hok2 15 rfl rfl (fun _ => Gives.pickF rfl rfl) (by kernel_rfl) ?_
    refine FGmove hok2 16 (h := ?_)
    first | refine FG_splitP (t := 27) rfl (fun hs20 => ?_) (fun hs20 => ?_) | refine FG_split (t := 27) rfl (fun hs20 => ?_) (fun hs20 => ?_)
    · skip
      (rw [show d.dead = m.dead from hsim.dead] at hs20; cases hq : m.dead <;> rw [hq] at hs20 <;> cases hs20) --done
    · skip
      refine FGmove hok2 17 (h := ?_)
      refine FGmove hok2 19 (h := ?_)
      refine FGp hok2 20 rfl rfl (fun _ => (Gives.nilCheck rfl)) (by kernel_rfl) ?_
      first | refine FGp hok2 21 rfl rfl (fun _ => (Gives.field0 rfl)) (by kernel_rfl) ?_ | refine FGp hok2 21 rfl rfl (fun _ => (Gives.field rfl)) (by kernel_rfl) ?_ | refine FGp hok2 21 rfl rfl (fun _ => (Gives.fieldA rfl)) (by kernel_rfl) ?_
      refine FGl hok2 22 rfl rfl (Gives.load1 rfl (H17.kept.get hb id) rfl) (by kernel_rfl) ?_
      refine FGcallS hok2 18 [(22, false), (21, true), (20, true), (19, true)] H17 (ops_ok (HP.stay h1 H17.kept)) (h := fun w26 H26 => ⟨(Stab_cons rfl rfl (Gives.load1 rfl (H26.kept.get hb id) rfl) rfl (Stab_pure (Stab_pure (Stab_pure (Stab_nil))))), ?_⟩)
      refine FGp hok2 23 rfl rfl (fun _ => (Gives.neq rfl rfl)) (by kernel_rfl) ?_
      refine FGp hok2 24 rfl rfl (fun _ => Gives.pickF rfl rfl) (by kernel_rfl) ?_
      refine FG_end hok2 (by kernel_rfl) ?_
      refine Qseq_normal ?_
      first | refine FW_condP rfl (fun hc29 => ?_) (fun hc29 => ?_) | refine FW_cond rfl (fun hc29 => ?_) (fun hc29 => ?_)
      · skip
        exact absurd hsim.ops hc29 --done
      · skip
        refine FW_skip (Qseq_normal ?_)
        refine FW_seq ?_
        refine FW_seq ?_
        refine FW_region ?_
        refine FL_assign (h := ?_)
        refine FL_nil (Qseq_normal ?_)
        refine FW_block ?_
        refine FW_loop' (fun n : Nat => [(0, .pointer (some ⟨p, 0, none⟩)), (1, .pointer (some ⟨q, 0, none⟩)), (5, I ((n : Int) - 1))])
          (fun n w' => n ≤ 10 ∧ Sep w noB [] w') (fun n _ => 10 - n) 0 ⟨rfl, rfl, rfl, trivial⟩ ⟨by decide, H26⟩ (fun n τ w33 hI => ?_)
        obtain ⟨hn, H33⟩ := hI
        try simp only [upds, like, upd_ds, und_ds]
        refine FW_seq ?_
        refine FW_seq ?_
        refine FW_region ?_
        refine FL_move (h := ?_)
        refine FL_move (h := ?_)
        refine FL_val (Gives.nilCheck rfl) rfl ?_
        first | refine FL_val (Gives.field0 rfl) rfl ?_ | refine FL_val (Gives.field rfl) rfl ?_ | refine FL_val (Gives.fieldA rfl) rfl ?_
        refine FL_loadB (H33.kept.get hb id) (h := ?_)
        refine FL_val (Gives.leq rfl rfl) rfl ?_
        refine FL_move (h := ?_)
        first | refine FL_splitP (t := 42) rfl (fun hs41 => ?_) (fun hs41 => ?_) | refine FL_split (t := 42) rfl (fun hs41 => ?_) (fun hs41 => ?_)
        · skip
          have hn2 := hs41
          refine FL_on rfl rfl ?_
          refine FL_move (h := ?_)
          refine FL_on rfl rfl ?_
          refine FL_val (Gives.lss rfl rfl) rfl ?_
          refine FL_pickT (h := ?_)
          refine FL_nil (Qseq_normal ?_)
          first | refine FW_condP rfl (fun hc46 => ?_) (fun hc46 => ?_) | refine FW_cond rfl (fun hc46 => ?_) (fun hc46 => ?_)
          · skip
            refine FW_skip (Qseq_normal ?_)
            refine FW_seq ?_
            refine FW_block ?_
            refine FW_seq ?_
            refine FW_region ?_
            refine FL_move (h := ?_)
            refine FL_move (h := ?_)
            refine FL_callN H33 (read_ok (HP.stay h1 H33.kept) (at_ := (n : Int) - 1)) rfl rfl (fun y w50 _ H50 _ => ?_)
            have hrl := read_len hsim.wf ((n : Int) - 1)
            rw [hsim.read] at H50 hrl ⊢
            obtain ⟨Ay, cy, hy, _⟩ := Sep.rowForm H50 At0
            subst hy
            refine FL_move (h := ?_)
            refine FL_val (Gives.extract rfl rfl) rfl ?_
            refine FL_val (Gives.extract rfl rfl) rfl ?_
            refine FL_assign (h := ?_)
            refine FL_assign (h := ?_)
            refine FL_nil (Qseq_normal ?_)
            refine FW_seq ?_
            refine FW_region ?_
            refine FL_move (h := ?_)
            refine FL_move (h := ?_)
            refine FL_callN H50 (readR_ok hs (HP.stay h2 H50.kept) (at_ := (n : Int) - 1)) rfl rfl (fun z w59 _ H59 _ => ?_)
            obtain ⟨Az, cz, hz, _⟩ := Sep.rowForm H59 At0
            subst hz
            refine FL_move (h := ?_)
            refine FL_val (Gives.extract rfl rfl) rfl ?_
            refine FL_val (Gives.extract rfl rfl) rfl ?_
            refine FL_assign (h := ?_)
            refine FL_assign (h := ?_)
            refine FL_nil (Qseq_normal ?_)
            refine FW_seq ?_
            refine FW_seq ?_
            refine FW_region ?_
            refine FL_move (h := ?_)
            refine FL_move (h := ?_)
            refine FL_callS (eqSame (H59.rowAt At1) (H59.rowAt At0)) (h := ?_)
            first | refine FL_val (Gives.notP rfl) rfl ?_ | refine FL_val (Gives.not rfl) rfl ?_
            refine FL_move (h := ?_)
            first | refine FL_splitP (t := 64) rfl (fun hs70 => ?_) (fun hs70 => ?_) | refine FL_split (t := 64) rfl (fun hs70 => ?_) (fun hs70 => ?_)
            · skip
              exact absurd hs70 (by decide) --done
            · skip
              refine FL_on rfl rfl ?_
              refine FL_move (h := ?_)
              refine FL_on rfl rfl ?_
              refine FL_move (h := ?_)
              refine FL_on rfl rfl ?_
              refine FL_val (Gives.neq rfl rfl) rfl ?_
              refine FL_pickF (h := ?_)
              refine FL_nil (Qseq_normal ?_)
              first | refine FW_condP rfl (fun hc76 => ?_) (fun hc76 => ?_) | refine FW_cond rfl (fun hc76 => ?_) (fun hc76 => ?_)
              · skip
                exact absurd hc76 (by simp) --done
              · skip
                refine FW_skip (Qseq_normal ?_)
                refine FW_seq ?_
                refine FW_region ?_
                refine FL_assign (h := ?_)
                refine FL_nil (Qseq_normal ?_)
                refine FW_block ?_
                have HR : Sep w noB [rowH 99 1 (.slice Ay ((m.abs.read ((n : Int) - 1)).1.getD []).length cy) ((m.abs.read ((n : Int) - 1)).1.getD []).length ((((m.abs.read ((n : Int) - 1)).1.getD []).map fun u => (u.toNat : Int)).map (Value.int .u8))] w59 := by
                  rw [List.map_map]
                  exact H59.drop0
                refine FW_loop' (fun x : Nat × List Int => [(0, .pointer (some ⟨p, 0, none⟩)), (1, .pointer (some ⟨q, 0, none⟩)), (5, I ((n : Int) - 1)), (6, .slice Ay ((m.abs.read ((n : Int) - 1)).1.getD []).length cy), (10, I x.1)])
                  (fun x w' => x.1 ≤ ((m.abs.read ((n : Int) - 1)).1.getD []).length ∧ x.2.length = ((m.abs.read ((n : Int) - 1)).1.getD []).length ∧ Sep w noB [rowH 99 1 (.slice Ay ((m.abs.read ((n : Int) - 1)).1.getD []).length cy) ((m.abs.read ((n : Int) - 1)).1.getD []).length (x.2.map (Value.int .u8))] w') (fun x _ => ((m.abs.read ((n : Int) - 1)).1.getD []).length - x.1) (0, ((m.abs.read ((n : Int) - 1)).1.getD []).map fun u => (u.toNat : Int)) ⟨rfl, rfl, rfl, rfl, rfl, trivial⟩ ⟨Nat.zero_le _, List.length_map _, HR⟩ (fun x τ w80 hI => ?_)
                obtain ⟨k, zs⟩ := x
                obtain ⟨hk, hzl, H80⟩ := hI
                dsimp only at hk hzl H80
                try simp only [upds, like, upd_ds]
                refine FW_seq ?_
                refine FW_seq ?_
                refine FW_region ?_
                refine FL_move (h := ?_)
                refine FL_move (h := ?_)
                refine FL_val (Gives.lenSlice rfl) rfl ?_
                refine FL_val (Gives.lss rfl rfl) rfl ?_
                refine FL_nil (Qseq_normal ?_)
                first | refine FW_condP rfl (fun hc85 => ?_) (fun hc85 => ?_) | refine FW_cond rfl (fun hc85 => ?_) (fun hc85 => ?_)
                · skip
                  have hkt : k < ((m.abs.read ((n : Int) - 1)).1.getD []).length := by omega
                  obtain ⟨g, cg, rest, hg, hcg, hlg, hle, hmx, H87⟩ := Sep.rowOpen H80 At0 (by omega)
                  injection hg with hg1 _ hg2
                  subst hg1 hg2
                  have hkz : k < zs.length := by omega
                  have hget : (zs.map (Value.int .u8) ++ rest)[k]? = some (.int .u8 zs[k]) := by
                    rw [List.getElem?_append_left (by rw [List.length_map]; exact hkz), List.getElem?_map, List.getElem?_eq_getElem hkz]
                    rfl
                  refine FW_skip (Qseq_normal ?_)
                  refine FW_seq ?_
                  refine FW_block ?_
                  refine FW_region ?_
                  refine FL_move (h := ?_)
                  refine FL_move (h := ?_)
                  refine FL_move (h := ?_)
                  refine FL_move (h := ?_)
                  refine FL_val (Gives.idxB rfl rfl hkt) rfl ?_
                  refine FL_load H87 (hat := At0) (hv := hget) (h := ?_)
                  refine FL_val (Gives.xor rfl rfl) rfl ?_
                  refine FL_val (Gives.idxB rfl rfl hkt) rfl ?_
                  refine FL_store H87 (hy := by exact rfl) (hat := At0) (cs' := (zs.set k (bits .xor .u8 zs[k] 90)).map (Value.int .u8) ++ rest) (ho := by rw [List.length_append, List.length_map]; exact Nat.ble_eq_true_of_le (by omega)) (hs := by rw [List.map_set]; exact set_front (by rw [List.length_map]; exact hkz)) (h := ?_)
                  intro w97 H97
                  refine FL_nil (Qblk_normal (Qseq_normal ?_))
                  refine FW_region ?_
                  refine FL_move (h := ?_)
                  first | refine FL_val (Gives.addI rfl rfl rfl (by omega)) rfl ?_ | refine FL_val (Gives.add rfl rfl) rfl ?_
                  refine FL_assign (h := ?_)
                  refine FL_nil ?_
                  exact Qround_normal (k + 1, zs.set k (bits .xor .u8 zs[k] 90)) ⟨rfl, rfl, rfl, rfl, rfl, trivial⟩ ⟨by dsimp only; omega, by rw [List.length_set]; exact hzl, Sep.rowShut H97 At0 (by rw [List.length_append, List.length_map, List.length_set]; rw [List.length_append, List.length_map] at hcg; exact hcg) (by rw [List.length_map, List.length_set]; omega) hle hmx⟩ (by dsimp only; omega)
                · skip
                  refine FW_exit (Qseq_exit (Qround_exit (Qblk_exit (Qblk_normal (Qseq_normal ?_)))))
                  refine FW_region ?_
                  refine FL_move (h := ?_)
                  first | refine FL_val (Gives.addI rfl rfl rfl (by omega)) rfl ?_ | refine FL_val (Gives.add rfl rfl) rfl ?_
                  refine FL_assign (h := ?_)
                  refine FL_nil ?_
                  exact Qround_normal (n + 1) ⟨rfl, rfl, by show I ((n : Int) - 1 + 1) = I (((n + 1 : Nat) : Int) - 1); congr 1; omega, trivial⟩ ⟨by omega, H80.drop0⟩ (by omega)
          · skip
            refine FW_exit (Qseq_exit (Qround_exit (Qblk_exit (Qseq_normal ?_))))
            refine FW_seq ?_
            refine FW_region ?_
            refine FL_assign (h := ?_)
            refine FL_nil (Qseq_normal ?_)
            refine FW_ret (Qfn_ret (hR := ?_))
            exact ⟨rfl, H33.kept⟩
        · skip
          refine FL_off rfl rfl rfl ?_
          refine FL_off rfl rfl rfl ?_
          refine FL_pickF (h := ?_)
          refine FL_nil (Qseq_normal ?_)
          refine FW_cond_false rfl ?_
          refine FW_exit (Qseq_exit (Qround_exit (Qblk_exit (Qseq_normal ?_))))
          refine FW_seq ?_
          refine FW_region ?_
          refine FL_assign (h := ?_)
          refine FL_nil (Qseq_normal ?_)
          refine FW_ret (Qfn_ret (hR := ?_))
          exact ⟨rfl, H33.kept⟩
end
end Go.Proofs.Yteflbohpabdjkaa
