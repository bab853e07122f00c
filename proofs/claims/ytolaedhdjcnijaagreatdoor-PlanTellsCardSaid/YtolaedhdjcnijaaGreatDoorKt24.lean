/-
 The document's plans, compared; the columns that they use; their names; walked.
-/
import Derived.Test.YtolaedhdjcnijaaGreatDoorKt23
import Derived.Test.YtolaedhdjcnijaaGreatDoorKt15
set_option linter.unusedVariables false
set_option linter.unusedSimpArgs false
namespace Go.Proofs.YtolaedhdjcnijaaGreatDoor
open Go Go.Mw Go.Lib
set_option maxRecDepth 4000
theorem named_iff {p : PlanM} : namedP p = true ↔ (1 ≤ p.cols.length ∧ p.cols.length ≤ 16 ∧ -1 ≤ p.group ∧ p.group ≤ p.cols.length) ∧ (∀ o ∈ p.cols, isNameS o.name = true ∧ ¬ (0 ≤ p.group ∧ o.name = countW)) ∧ (p.cols.map (·.name)).Nodup := by
 unfold namedP
 rw [Bool.and_eq_true, Bool.and_eq_true, decide_eq_true_iff, decide_eq_true_iff, List.all_eq_true, and_assoc]
 refine and_congr_right fun _ => and_congr_left fun _ => ?_
 refine forall_congr' fun o => forall_congr' fun _ => ?_
 rw [Bool.and_eq_true, Bool.not_eq_true', Bool.and_eq_false_iff, decide_eq_false_iff_not, decide_eq_false_iff_not]
 exact and_congr_right fun _ => ⟨fun h ⟨a, b⟩ => h.elim (fun h => h a) fun h => h b, fun h => (Classical.em (0 ≤ p.group)).elim (fun a => .inr fun b => h ⟨a, b⟩) .inl⟩
theorem named_not {p : PlanM} (h : ¬ ((1 ≤ p.cols.length ∧ p.cols.length ≤ 16 ∧ -1 ≤ p.group ∧ p.group ≤ p.cols.length) ∧ (∀ o ∈ p.cols, isNameS o.name = true ∧ ¬ (0 ≤ p.group ∧ o.name = countW)) ∧ (p.cols.map (·.name)).Nodup)) : namedP p = false := eq_false_of_ne_true fun e => h (named_iff.1 e)
theorem nodup_at {l : List OutM} : (l.map (·.name)).Nodup ↔ ∀ (a b : Nat) x y, a < b → l[a]? = some x → l[b]? = some y → x.name ≠ y.name := by
 unfold List.Nodup
 rw [List.pairwise_map, List.pairwise_iff_getElem]
 constructor
 ·intro h a b x y hab hx hy
  obtain ⟨ha, rfl⟩ := List.getElem?_eq_some_iff.1 hx
  obtain ⟨hb, rfl⟩ := List.getElem?_eq_some_iff.1 hy
  exact h a b ha hb hab
 intro h a b ha hb hab
 exact h a b _ _ hab (List.getElem?_eq_getElem ha) (List.getElem?_eq_getElem hb)
section
variable {w : World}
theorem sameSt_ok {a b : List StepM} {va vb : Value} (ha : RowIn w va stepCells 3 a) (hb : RowIn w vb stepCells 3 b) : Rets Tryz.prog 50 [va, vb] w fun v' w' => v' = .bool (decide (a = b)) ∧ Kept noB w w' := by
 obtain ⟨A, m, rfl, ⟨hm, hm'⟩, hA⟩ := ha
 obtain ⟨B, n, rfl, ⟨hn, hn'⟩, hB⟩ := hb
 have H := Sep.start0 w
 refine rets2 Tryz.func50 rfl rfl rfl rfl ?_
 refine Sr (Am ?_)
 refine Qn (FW_seq (Sr (Mv ?_)))
 refine Vs ?_
 refine Mv ?_
 refine Vs ?_
 refine Vn ?_
 refine Qn (Cp rfl (fun hc7 => ?_) (fun hc7 => ?_))
 ·have hne := hc7
  refine Sr (Am ?_)
  refine Qn (Rs (Qfn_ret (hR := ?_)))
  exact ⟨congrArg Value.bool (Eq.symm (decide_eq_false fun e => hne (by rw [e]))), H.kept⟩
 have hlen : a.length = b.length := by omega
 refine Sk (FW_seq (Sr (Am ?_)))
 refine Qn (FW_block (FW_loop' (fun i : Nat => [(0, .slice A a.length m), (1, .slice B b.length n), (5, I i)]) (fun i w' => (i ≤ a.length ∧ a.take i = b.take i) ∧ Sep w noB [] w') (fun i _ => a.length - i) 0 ⟨rfl, rfl, rfl, trivial⟩ ⟨⟨Nat.zero_le _, by simp⟩, H⟩ (fun i τ w14 hI => ?_)))
 obtain ⟨⟨hi, hst⟩, H14⟩ := hI
 try simp only [upds, like, upd_ds, und_ds]
 refine FW_seq (Sr (Mv ?_))
 refine Mv ?_
 refine Vs ?_
 refine Vl ?_
 refine Qn (Cp rfl (fun hc19 => ?_) (fun hc19 => ?_))
 ·have hlt : i < a.length := by omega
  obtain ⟨x, hx⟩ := get_some hlt
  obtain ⟨y, hy⟩ := get_some (l := b) (i := i) (by omega)
  refine Sk (FW_seq (FW_block (FW_seq (FW_drawS rfl H14 (h := fun hok21 w23 H23 => ?_)))))
  refine Gm hok21 0 ?_
  refine Gm hok21 1 ?_
  refine Gp hok21 2 rfl rfl (fun _ => (Gives.idxR rfl rfl (by assumption) (by omega))) (Gl hok21 3 rfl rfl (Gives.loadE0 rfl H23 (by assumption) (by assumption)) ?_)
  refine Gm hok21 4 ?_
  refine Gm hok21 5 ?_
  refine Gp hok21 6 rfl rfl (fun _ => (Gives.idxR rfl rfl (by assumption) (by omega))) (Gl hok21 7 rfl rfl (Gives.loadE0 rfl H23 (by assumption) (by assumption)) ?_)
  refine Gp hok21 8 rfl rfl (fun _ => (Gives.neqG (enc := stepCells) _ _ rfl rfl)) (FG_end hok21 (by kernel_rfl) ?_)
  refine Qseq_normal (Cp rfl (fun hc29 => ?_) (fun hc29 => ?_))
  ·have hxy := hc29
   refine Sr (Am ?_)
   refine Qn (Rb (Qround_ret (Qblk_ret (Qseq_ret (Qfn_ret (hR := ?_))))))
   exact ⟨congrArg Value.bool (Eq.symm (decide_eq_false fun e => hxy (by rw [e, hy] at hx; injection hx with hx; exact hx.symm))), H23.kept⟩
  have hxy : x = y := Classical.not_not.1 hc29
  have hnx : a.take (i + 1) = b.take (i + 1) := by rw [List.take_add_one, List.take_add_one, hst, hx, hy, hxy]
  refine FW_skip (Qblk_normal (Qseq_normal (FW_region (Mv ?_))))
  refine Vv (Gives.addI rfl rfl rfl (by omega)) (Am ?_)
  refine FL_nil ?_
  exact Qround_normal (i + 1) ⟨rfl, rfl, rfl, trivial⟩ ⟨⟨by omega, hnx⟩, H23⟩ (by omega)
 have hil : i = a.length := by omega
 have hab : a = b := by rw [hil, List.take_length, hlen, List.take_length] at hst; exact hst
 refine FW_exit (Qseq_exit (Qround_exit (Qblk_exit (Qseq_normal (Sr (Am ?_))))))
 refine Qn (FW_ret (Qfn_ret (hR := ?_)))
 exact ⟨congrArg Value.bool (Eq.symm (decide_eq_true hab)), H14.kept⟩
theorem sameR_ok {p q : PlanM} {va vb : Value} (ha : PlanIn w va p) (hb : PlanIn w vb q) : Rets Tryz.prog 17 [va, vb] w fun v' w' => v' = .bool (decide (p = q)) ∧ Kept noB w w' := by
 obtain ⟨vw, vc, rfl, hw, r, ⟨A, m, rfl, ⟨hm, hm'⟩, hA⟩, hra⟩ := ha
 obtain ⟨uw, uc, rfl, gw, s, ⟨B, n, rfl, ⟨hn, hn'⟩, hB⟩, hrb⟩ := hb
 have hal := hra.len
 have hbl := hrb.len
 have H := Sep.start0 w
 refine rets2 Tryz.func17 rfl rfl rfl rfl ?_
 refine Sr (FL_box H (cs := [vw, .slice A r.length m, I p.group]) rfl (h := fun b2 w2 H2 k1 => ?_))
 refine FL_box H2 (cs := [uw, .slice B s.length n, I q.group]) rfl (h := fun b3 w4 H4 k3 => ?_)
 refine Am ?_
 refine Qn (FW_seq (Sr (Vf ?_)))
 refine Ld H4 ?_
 refine Vf ?_
 refine Ld H4 ?_
 refine FL_callQ H4 (sameSt_ok (hw.keep H4.kept) (gw.keep H4.kept)) (h := fun w11 H11 k10 => ?_)
 refine Vv (Gives.notP rfl) (Mv ?_)
 refine FL_splitP (t := 12) rfl (fun hs14 => ?_) (fun hs14 => ?_)
 ·have hne : ¬ p = q := fun e => hs14 (by rw [e])
  refine Of (Of (Of (Of (Of (Pt ?_)))))
  refine Mv ?_
  refine Of (Of (Of (Of (Of (Of (Of (Pt ?_)))))))
  refine Qn (FW_cond_true rfl ?_)
  refine Sr (Am ?_)
  refine Qn (Rs (Qfn_ret (hR := ?_)))
  exact ⟨congrArg Value.bool (Eq.symm (decide_eq_false hne)), H11.kept⟩
 have hwh : p.wh = q.wh := Classical.not_not.1 hs14
 refine On (Vf ?_)
 refine On (Ld H11 ?_)
 refine On (Vf ?_)
 refine On (Ld H11 ?_)
 refine On (Vn ?_)
 refine Pf ?_
 refine Mv ?_
 refine FL_splitP (t := 19) rfl (fun hs29 => ?_) (fun hs29 => ?_)
 ·have hne : ¬ p = q := fun e => hs29 (by rw [e])
  refine Of (Of (Of (Of (Of (Of (Of (Pt ?_)))))))
  refine Qn (FW_cond_true rfl ?_)
  refine Sr (Am ?_)
  refine Qn (Rs (Qfn_ret (hR := ?_)))
  exact ⟨congrArg Value.bool (Eq.symm (decide_eq_false hne)), H11.kept⟩
 have hg : p.group = q.group := Classical.not_not.1 hs29
 refine On (Vf ?_)
 refine On (Ld H11 ?_)
 refine On (Vs ?_)
 refine On (Vf ?_)
 refine On (Ld H11 ?_)
 refine On (Vs ?_)
 refine On (Vn ?_)
 refine Pf ?_
 refine Qn (Cp rfl (fun hc43 => ?_) (fun hc43 => ?_))
 ·have hne : ¬ p = q := fun e => hc43 (by rw [hal, hbl, e])
  refine Sr (Am ?_)
  refine Qn (Rs (Qfn_ret (hR := ?_)))
  exact ⟨congrArg Value.bool (Eq.symm (decide_eq_false hne)), H11.kept⟩
 have hlen : p.cols.length = q.cols.length := by omega
 refine Sk (FW_seq (Sr (Am ?_)))
 refine Qn (FW_block (FW_loop' (fun i : Nat => [(2, selfP b2), (3, selfP b3), (5, I i)]) (fun i w' => (i ≤ p.cols.length ∧ p.cols.take i = q.cols.take i) ∧ Sep w noB [blk b3 [uw, .slice B s.length n, I q.group] 25, blk b2 [vw, .slice A r.length m, I p.group] 25] w') (fun i _ => p.cols.length - i) 0 ⟨rfl, rfl, rfl, trivial⟩ ⟨⟨Nat.zero_le _, by simp⟩, H11⟩ (fun i τ w50 hI => ?_)))
 obtain ⟨⟨hi, hst⟩, H50⟩ := hI
 try simp only [upds, like, upd_ds, und_ds]
 refine FW_seq (Sr (Mv ?_))
 refine Vf ?_
 refine Ld H50 ?_
 refine Vs ?_
 refine Vl ?_
 refine Qn (Cp rfl (fun hc56 => ?_) (fun hc56 => ?_))
 ·have hlt : i < p.cols.length := by omega
  obtain ⟨vx, hx, hsx⟩ := hra.at hlt
  obtain ⟨vy, hy, hsy⟩ := hrb.at (show i < q.cols.length by omega)
  have hpa : p.cols[i]? = some p.cols[i] := List.getElem?_eq_getElem hlt
  have hpb : q.cols[i]? = some q.cols[i] := List.getElem?_eq_getElem (by omega)
  obtain ⟨a, hae⟩ : ∃ a, a = p.cols[i] := ⟨_, rfl⟩
  obtain ⟨b, hbe⟩ : ∃ b, b = q.cols[i]'(by omega) := ⟨_, rfl⟩
  rw [← hae] at hx hsx hpa
  rw [← hbe] at hy hsy hpb
  refine Sk (FW_seq (FW_block (FW_seq (FW_drawS rfl H50 (h := fun hok58 w60 H60 => ?_)))))
  refine Gp hok58 0 rfl rfl (fun _ => (Gives.field0 rfl)) (FGload hok58 1 H60 (h := ?_))
  refine Gm hok58 2 ?_
  refine Gp hok58 3 rfl rfl (fun _ => (Gives.idxR rfl rfl (by assumption) (by omega))) (Gp hok58 4 rfl rfl (fun _ => (Gives.fieldR rfl (by assumption) (by omega))) ?_)
  refine Gl hok58 5 rfl rfl (Gives.loadE rfl H60 (by assumption) (by assumption) rfl) (Gp hok58 6 rfl rfl (fun _ => (Gives.field0 rfl)) ?_)
  refine FGload hok58 7 H60 (h := ?_)
  refine Gm hok58 8 ?_
  refine Gp hok58 9 rfl rfl (fun _ => (Gives.idxR rfl rfl (by assumption) (by omega))) (Gp hok58 10 rfl rfl (fun _ => (Gives.fieldR rfl (by assumption) (by omega))) ?_)
  refine Gl hok58 11 rfl rfl (Gives.loadE rfl H60 (by assumption) (by assumption) rfl) (Gp hok58 12 rfl rfl (fun _ => (Gives.neqT rfl rfl)) ?_)
  refine Gm hok58 13 ?_
  refine FG_splitP (t := 48) rfl (fun hs72 => ?_) (fun hs72 => ?_)
  ·have hxy : ¬ a = b := fun e => hs72 (by rw [e])
   refine FGoff hok58 14 rfl rfl (by kernel_rfl) ?_
   refine FGoff hok58 15 rfl rfl (by kernel_rfl) ?_
   refine FGoff hok58 16 rfl rfl (by kernel_rfl) ?_
   refine FGoff hok58 17 rfl rfl (by kernel_rfl) ?_
   refine FGoff hok58 18 rfl rfl (by kernel_rfl) ?_
   refine FGoff hok58 19 rfl rfl (by kernel_rfl) ?_
   refine FGoff hok58 20 rfl rfl (by kernel_rfl) ?_
   refine FGoff hok58 21 rfl rfl (by kernel_rfl) ?_
   refine FGoff hok58 22 rfl rfl (by kernel_rfl) ?_
   refine FGoff hok58 23 rfl rfl (by kernel_rfl) ?_
   refine FGoff hok58 24 rfl rfl (by kernel_rfl) ?_
   refine FGoff hok58 25 rfl rfl (by kernel_rfl) ?_
   refine FGoff hok58 26 rfl rfl (by kernel_rfl) ?_
   refine FGoff hok58 27 rfl rfl (by kernel_rfl) ?_
   refine Gp hok58 28 rfl rfl (fun _ => Gives.pickT rfl rfl) (FG_end hok58 (by kernel_rfl) ?_)
   refine Qseq_normal (FW_cond_true rfl ?_)
   refine Sr (Am ?_)
   refine Qn (Rb (Qround_ret (Qblk_ret (Qseq_ret (Qfn_ret (hR := ?_))))))
   exact ⟨congrArg Value.bool (Eq.symm (decide_eq_false fun e => hxy (by rw [e, hpb] at hpa; injection hpa with hpa; exact hpa.symm))), H60.kept⟩
  have hnm : a.name = b.name := Classical.not_not.1 hs72
  refine Gp hok58 14 rfl rfl (fun _ => (Gives.field0 rfl)) (FGload hok58 15 H60 (h := ?_))
  refine Gm hok58 16 ?_
  refine Gp hok58 17 rfl rfl (fun _ => (Gives.idxR rfl rfl (by assumption) (by omega))) (Gp hok58 18 rfl rfl (fun _ => (Gives.fieldR rfl (by assumption) (by omega))) ?_)
  refine Gl hok58 19 rfl rfl (Gives.loadE rfl H60 (by assumption) (by assumption) rfl) (Gp hok58 20 rfl rfl (fun _ => (Gives.field0 rfl)) ?_)
  refine FGload hok58 21 H60 (h := ?_)
  refine Gm hok58 22 ?_
  refine Gp hok58 23 rfl rfl (fun _ => (Gives.idxR rfl rfl (by assumption) (by omega))) (Gp hok58 24 rfl rfl (fun _ => (Gives.fieldR rfl (by assumption) (by omega))) ?_)
  refine Gl hok58 25 rfl rfl (Gives.loadE rfl H60 (by assumption) (by assumption) rfl) (FGcallQ hok58 26 [] H60 (sameSt_ok (hsx.keep H60.kept) (hsy.keep H60.kept)) (h := fun w89 H89 k88 => ⟨Stab_nil, ?_⟩))
  refine Gp hok58 27 rfl rfl (fun _ => (Gives.notP rfl)) (Gp hok58 28 rfl rfl (fun _ => Gives.pickF rfl rfl) ?_)
  refine FG_end hok58 (by kernel_rfl) ?_
  refine Qseq_normal (Cp rfl (fun hc92 => ?_) (fun hc92 => ?_))
  ·have hxy : ¬ a = b := fun e => hc92 (by rw [e])
   refine Sr (Am ?_)
   refine Qn (Rb (Qround_ret (Qblk_ret (Qseq_ret (Qfn_ret (hR := ?_))))))
   exact ⟨congrArg Value.bool (Eq.symm (decide_eq_false fun e => hxy (by rw [e, hpb] at hpa; injection hpa with hpa; exact hpa.symm))), H89.kept⟩
  have hnx : p.cols.take (i + 1) = q.cols.take (i + 1) := by rw [List.take_add_one, List.take_add_one, hst, hpa, hpb, OutM.ext' hnm (Classical.not_not.1 hc92)]
  refine FW_skip (Qblk_normal (Qseq_normal (FW_region (Mv ?_))))
  refine Vv (Gives.addI rfl rfl rfl (by omega)) (Am ?_)
  refine FL_nil ?_
  exact Qround_normal (i + 1) ⟨rfl, rfl, rfl, trivial⟩ ⟨⟨by omega, hnx⟩, H89⟩ (by omega)
 have hil : i = p.cols.length := by omega
 have hab : p.cols = q.cols := by rw [hil, List.take_length, hlen, List.take_length] at hst; exact hst
 refine FW_exit (Qseq_exit (Qround_exit (Qblk_exit (Qseq_normal (Sr (Am ?_))))))
 refine Qn (FW_ret (Qfn_ret (hR := ?_)))
 exact ⟨congrArg Value.bool (Eq.symm (decide_eq_true (PlanM.ext' hwh hab hg))), H50.kept⟩
theorem usesPR_ok {p : PlanM} {v : Value} (hp : PlanIn w v p) (hf : ∀ x ∈ p.wh ++ p.cols.flatMap (·.steps), fits x.n) (hn : p.cols.length ≤ 100) (hw1 : p.wh.length ≤ 900) (hc1 : ∀ o ∈ p.cols, o.steps.length ≤ 900) :
    Rets Tryz.prog 33 [v] w fun v w' => ∃ x, v = x ∧ True ∧ Turn noB (rowD 3 1 intCells x (usesP p)) w w' := by
  obtain ⟨vw, vc, rfl, hw, r, hr, hraw⟩ := hp
  obtain ⟨A, m, rfl, ⟨hm, hm'⟩, hA⟩ := hr
  obtain ⟨W, mw, rfl, ⟨hmw, hmw'⟩, hW⟩ := hw
  have hrl := hraw.len
  have H := Sep.start0 w
  have hlen : ∀ i, (p.wh ++ (p.cols.take i).flatMap (·.steps)).length ≤ 900 + i * 900 := fun i => by
    induction i with
    | zero => rw [List.take_zero, List.flatMap_nil, List.append_nil]; omega
    | succ i ih =>
      cases hc : p.cols[i]? with
      | none => rw [List.take_add_one, hc]; simp only [Option.toList_none, List.append_nil]; omega
      | some o =>
        have := hc1 o (List.mem_of_getElem? hc)
        rw [List.take_add_one, hc, Option.toList_some, List.flatMap_append, ← List.append_assoc, List.length_append, List.flatMap_cons, List.flatMap_nil, List.append_nil]
        omega
  refine rets1 Tryz.func33 rfl rfl rfl rfl ?_
  refine Sr (FL_box H (cs := [.slice W p.wh.length mw, .slice A r.length m, I p.group]) rfl (h := fun b1 w2 H2 k1 => ?_))
  refine Am ?_
  refine Nx ?_
  have H5 := Sep.nilD H2 60 3 stepCells
  refine Am ?_
  refine Nx (Mv ?_)
  refine Vf ?_
  refine Ld H5 ?_
  refine FL_appendO H5 At0 (hW.keep H5.kept) (by unfold maxLen; simp; omega) (by simp; omega) (cells_one (fun _ => rfl) _) (h := ?_)
  intro v0 w10 H10
  rw [List.nil_append] at H10
  refine Am ?_
  refine Qn (FW_seq (Sr (Am ?_)))
  refine Qn (FW_block ?_)
  have H14 : Mw.Sep w noB [rowD 60 3 stepCells v0 (p.wh ++ (p.cols.take 0).flatMap (·.steps)), blk b1 [.slice W p.wh.length mw, .slice A r.length m, I p.group] 25] w10 := by
    rw [List.take_zero, List.flatMap_nil, List.append_nil]
    exact H10
  refine FW_loop' (fun x : Nat × Value => [(1, selfP b1), (3, x.2), (4, I x.1)]) (fun x w' => x.1 ≤ r.length ∧ Sep w noB [rowD 60 3 stepCells x.2 (p.wh ++ (p.cols.take x.1).flatMap (·.steps)), blk b1 [.slice W p.wh.length mw, .slice A r.length m, I p.group] 25] w') (fun x _ => r.length - x.1) (0, v0) ⟨rfl, rfl, rfl, trivial⟩ ⟨Nat.zero_le _, H14⟩ (fun x τ w14 hI => ?_)
  obtain ⟨i, v1⟩ := x
  obtain ⟨hi, H14⟩ := hI
  dsimp only at hi H14
  obtain ⟨B, cb, rfl, hcb, hB⟩ := Sep.formD H14 At0
  have hli := hlen i
  try simp only [upds, like, upd_ds, und_ds]
  refine FW_seq (Sr (Mv ?_))
  refine Vf ?_
  refine Ld H14 ?_
  refine Vs ?_
  refine Vl ?_
  refine Qn (Cp rfl (fun hc20 => ?_) (fun hc20 => ?_))
  · have hlt : i < p.cols.length := by omega
    obtain ⟨vx, hx, hsx⟩ := hraw.at hlt
    have hpc : p.cols[i]? = some p.cols[i] := List.getElem?_eq_getElem hlt
    obtain ⟨o, ho⟩ : ∃ o, o = p.cols[i] := ⟨_, rfl⟩
    rw [← ho] at hx hsx hpc
    obtain ⟨Ax, cx, rfl, _, hX⟩ := id hsx
    have hol := hc1 o (List.mem_of_getElem? hpc)
    have htk : p.wh ++ (p.cols.take (i + 1)).flatMap (·.steps) = (p.wh ++ (p.cols.take i).flatMap (·.steps)) ++ o.steps := by rw [List.take_add_one, hpc, Option.toList_some, List.flatMap_append, ← List.append_assoc, List.flatMap_cons, List.flatMap_nil, List.append_nil]
    refine Sk (FW_seq (FW_block (FW_region (Mv ?_))))
    refine Vf ?_
    refine Ld H14 ?_
    refine Mv ?_
    refine Vv (Gives.idxR rfl rfl (by assumption) (by omega)) (Vv (Gives.fieldR rfl (by assumption) (by omega)) ?_)
    refine Vv (Gives.loadE rfl H14 (by assumption) (by assumption) rfl) (FL_appendO H14 At0 (hX.keep H14.kept) (by unfold maxLen; omega) (by omega) (cells_one (fun _ => rfl) _) (h := ?_))
    intro v2 w30 H30
    rw [← htk] at H30
    refine Am ?_
    refine FL_nil (Qblk_normal (Qseq_normal (FW_region (Mv ?_))))
    refine Vv (Gives.addI rfl rfl rfl (by omega)) (Am ?_)
    refine FL_nil ?_
    exact Qround_normal (i + 1, v2) ⟨rfl, rfl, rfl, trivial⟩ ⟨by dsimp only; omega, H30⟩ (by dsimp only; omega)
  have hil : i = r.length := by omega
  rw [hil, List.take_of_length_le (by omega)] at H14 hli
  rw [hil, List.take_of_length_le (by omega)]
  refine FW_exit (Qseq_exit (Qround_exit (Qblk_exit (Qseq_normal (Sr (Mv ?_))))))
  refine FL_callN H14 (usesR_ok22 (Sep_in H14 At0) hf (by omega)) (h := fun x2 w39 _ H39 k38 => ?_)
  refine Am ?_
  refine Qn (FW_ret (Qfn_ret (hR := ?_)))
  exact ⟨_, rfl, trivial, H39.first.turn⟩
theorem isName_ok11 (s : List UInt8) : Rets Tryz.prog 87 [str s] w fun v w' => v = .bool (isNameS s) ∧ Kept noB w w' := by
 have H := Sep.start0 w
 have hall : ∀ (i : Nat) c, s[i]? = some c → nameB c = false → isNameS s = false := fun i c hc hn => by
  unfold isNameS
  have : s.all nameB = false := by rw [List.all_eq_false]; exact ⟨c, List.mem_of_getElem? hc, by rw [hn]; decide⟩
  rw [this, Bool.and_false]
 refine rets1 Tryz.func87 rfl rfl rfl rfl ?_
 refine Sr (Am ?_)
 refine Qn (FW_seq (Sr (Mv ?_)))
 refine Vt ?_
 refine Vl ?_
 refine Mv ?_
 refine FL_splitP (t := 9) rfl (fun hs6 => ?_) (fun hs6 => ?_)
 ·have hsh : ¬ (1 ≤ s.length ∧ s.length ≤ 32) := by omega
  refine Of (Of (Of (Pt ?_)))
  refine Qn (FW_cond_true rfl ?_)
  refine Sr (Am ?_)
  refine Qn (Rs (Qfn_ret (hR := ?_)))
  exact ⟨congrArg Value.bool (by unfold isNameS; rw [decide_eq_false hsh, Bool.false_and, Bool.false_and]), H.kept⟩
 refine On (Mv ?_)
 refine On (Vt ?_)
 refine On (Vg ?_)
 refine Pf ?_
 refine Qn (Cp rfl (fun hc15 => ?_) (fun hc15 => ?_))
 ·have hsh : ¬ (1 ≤ s.length ∧ s.length ≤ 32) := by omega
  refine Sr (Am ?_)
  refine Qn (Rs (Qfn_ret (hR := ?_)))
  exact ⟨congrArg Value.bool (by unfold isNameS; rw [decide_eq_false hsh, Bool.false_and, Bool.false_and]), H.kept⟩
 have hsh : 1 ≤ s.length ∧ s.length ≤ 32 := by omega
 refine Sk (FW_seq (Sr (Am ?_)))
 refine Qn (FW_block (FW_loop' (fun i : Nat => [(0, str s), (3, I i)]) (fun i w' => (i ≤ s.length ∧ (s.take i).all nameB = true ∧ (0 < i → lowB (s.getD 0 0) = true)) ∧ Sep w noB [] w') (fun i _ => s.length - i) 0 ⟨rfl, rfl, trivial⟩ ⟨⟨Nat.zero_le _, by simp, fun h => absurd h (by decide)⟩, H⟩ (fun i τ w22 hI => ?_)))
 obtain ⟨⟨hi, hst, hfi⟩, H22⟩ := hI
 try simp only [upds, like, upd_ds, und_ds]
 refine FW_seq (Sr (Mv ?_))
 refine Mv ?_
 refine Vt ?_
 refine Vl ?_
 refine Qn (Cp rfl (fun hc27 => ?_) (fun hc27 => ?_))
 ·have hlt : i < s.length := by omega
  obtain ⟨c, hc⟩ := get_some hlt
  have hcd : s.getD i 0 = c := getD_of hc
  have hnx : nameB c = true → (s.take (i + 1)).all nameB = true := fun h => by rw [List.take_add_one, hc, Option.toList_some, List.all_append, hst, List.all_cons, h]; rfl
  have hbad : ¬ (97 ≤ c.toNat ∧ c.toNat ≤ 122) → i = 0 → isNameS s = false := fun h e => by
   unfold isNameS
   rw [e] at hcd
   have : lowB (s.getD 0 0) = false := by rw [hcd]; exact decide_eq_false h
   rw [this, Bool.and_false, Bool.false_and]
  have hlow : nameB c = (decide (97 ≤ c.toNat ∧ c.toNat ≤ 122) || decide (c = 95) || decide (48 ≤ c.toNat ∧ c.toNat ≤ 57)) := by unfold nameB lowB isDig; simp [UInt8.le_iff_toNat_le]
  have h95 : c = 95 ↔ c.toNat = 95 := ⟨fun h => by rw [h]; rfl, fun h => UInt8.toNat_inj.1 h⟩
  refine Sk (FW_seq (FW_block (Sr (Mv ?_))))
  refine Mv ?_
  refine Vv (Gives.idxD rfl rfl hlt) ?_
  rw [hcd]
  refine Am ?_
  refine Nx (Mv ?_)
  refine Vv (Gives.geq rfl rfl) (Mv ?_)
  refine FL_splitP (t := 25) rfl (fun hs36 => ?_) (fun hs36 => ?_)
  ·refine On (Mv ?_)
   refine On (Vv (Gives.leq rfl rfl) (Pt ?_))
   refine Am ?_
   refine Nx (Mv ?_)
   refine Vv (Gives.notP rfl) (Mv ?_)
   refine FL_splitP (t := 31) rfl (fun hs44 => ?_) (fun hs44 => ?_)
   ·have hnl : ¬ (97 ≤ c.toNat ∧ c.toNat ≤ 122) := by omega
    refine On (Mv ?_)
    refine On (Ve ?_)
    refine On (Mv ?_)
    refine FL_splitP (t := 34) rfl (fun hs49 => ?_) (fun hs49 => ?_)
    ·have hres := hbad hnl (by omega)
     refine Of (Of (Of (Ou (Ou (Ou (Ou (Ou (Ou (Of (On (Pt ?_)))))))))))
     refine Pt ?_
     refine Qn (FW_cond_true rfl ?_)
     refine Sr (Am ?_)
     refine Qn (Rb (Qround_ret (Qblk_ret (Qseq_ret (Qfn_ret (hR := ?_))))))
     exact ⟨by rw [hres]; rfl, H22.kept⟩
    have hi0 : ¬ i = 0 := by omega
    refine On (Mv ?_)
    refine On (Vn ?_)
    refine On (Mv ?_)
    refine FL_splitP (t := 37) rfl (fun hs59 => ?_) (fun hs59 => ?_)
    ·have hn95 : ¬ c = 95 := fun e => hs59 (by rw [e]; rfl)
     refine On (Mv ?_)
     refine On (Vl ?_)
     refine On (Mv ?_)
     refine FL_splitP (t := 40) rfl (fun hs64 => ?_) (fun hs64 => ?_)
     ·have hres := hall i c hc (by rw [hlow, decide_eq_false hnl, decide_eq_false hn95, decide_eq_false (by omega)]; rfl)
      refine Of (Of (On (Pt ?_)))
      refine On (Pt ?_)
      refine On (Pf ?_)
      refine Pt ?_
      refine Qn (FW_cond_true rfl ?_)
      refine Sr (Am ?_)
      refine Qn (Rb (Qround_ret (Qblk_ret (Qseq_ret (Qfn_ret (hR := ?_))))))
      exact ⟨by rw [hres]; rfl, H22.kept⟩
     refine On (Mv ?_)
     refine On (Vg ?_)
     refine On (Pf ?_)
     refine On (Pt ?_)
     refine On (Pf ?_)
     refine Pt ?_
     refine Qn (Cp rfl (fun hc78 => ?_) (fun hc78 => ?_))
     ·have hres := hall i c hc (by rw [hlow, decide_eq_false hnl, decide_eq_false hn95, decide_eq_false (by omega)]; rfl)
      refine Sr (Am ?_)
      refine Qn (Rb (Qround_ret (Qblk_ret (Qseq_ret (Qfn_ret (hR := ?_))))))
      exact ⟨by rw [hres]; rfl, H22.kept⟩
     have hn : nameB c = true := by rw [hlow, decide_eq_true (show 48 ≤ c.toNat ∧ c.toNat ≤ 57 by omega)]; simp
     refine FW_skip (Qblk_normal (Qseq_normal (FW_region (Mv ?_))))
     refine Vv (Gives.addI rfl rfl rfl (by omega)) (Am ?_)
     refine FL_nil ?_
     exact Qround_normal (i + 1) ⟨rfl, rfl, trivial⟩ ⟨⟨by omega, hnx hn, fun _ => hfi (by omega)⟩, H22⟩ (by omega)
    have hn : nameB c = true := by rw [hlow, decide_eq_true (h95.2 (by omega))]; simp
    refine Of (Of (Of (Ou (Ou (Of (On (Pf ?_)))))))
    refine On (Pf ?_)
    refine Pt ?_
    refine Qn (FW_cond_false rfl ?_)
    refine FW_skip (Qblk_normal (Qseq_normal (FW_region (Mv ?_))))
    refine Vv (Gives.addI rfl rfl rfl (by omega)) (Am ?_)
    refine FL_nil ?_
    exact Qround_normal (i + 1) ⟨rfl, rfl, trivial⟩ ⟨⟨by omega, hnx hn, fun _ => hfi (by omega)⟩, H22⟩ (by omega)
   have hl : 97 ≤ c.toNat ∧ c.toNat ≤ 122 := by omega
   refine Of (Of (Of (Ou (Ou (Ou (Ou (Ou (Ou (Ou (Ou (Ou (Ou (Of (Pf ?_))))))))))))))
   refine Qn (FW_cond_false rfl ?_)
   refine FW_skip (Qblk_normal (Qseq_normal (FW_region (Mv ?_))))
   refine Vv (Gives.addI rfl rfl rfl (by omega)) (Am ?_)
   refine FL_nil ?_
   exact Qround_normal (i + 1) ⟨rfl, rfl, trivial⟩ ⟨⟨by omega, hnx (by rw [hlow, decide_eq_true hl]; simp), fun _ => by
   rcases Nat.eq_zero_or_pos i with e | e
   ·rw [e] at hcd; rw [hcd]; exact decide_eq_true hl
   exact hfi e⟩, H22⟩ (by omega)
  have hnl : ¬ (97 ≤ c.toNat ∧ c.toNat ≤ 122) := by omega
  refine Of (Of (Pf ?_))
  refine Am ?_
  refine Nx (Mv ?_)
  refine Vv (Gives.not rfl) (Mv ?_)
  refine On (Mv ?_)
  refine On (Ve ?_)
  refine On (Mv ?_)
  refine FL_splitP (t := 34) rfl (fun hs110 => ?_) (fun hs110 => ?_)
  ·have hres := hbad hnl (by omega)
   refine Of (Of (Of (Ou (Ou (Ou (Ou (Ou (Ou (Of (On (Pt ?_)))))))))))
   refine Pt ?_
   refine Qn (FW_cond_true rfl ?_)
   refine Sr (Am ?_)
   refine Qn (Rb (Qround_ret (Qblk_ret (Qseq_ret (Qfn_ret (hR := ?_))))))
   exact ⟨by rw [hres]; rfl, H22.kept⟩
  have hi0 : ¬ i = 0 := by omega
  refine On (Mv ?_)
  refine On (Vn ?_)
  refine On (Mv ?_)
  refine FL_splitP (t := 37) rfl (fun hs120 => ?_) (fun hs120 => ?_)
  ·have hn95 : ¬ c = 95 := fun e => hs120 (by rw [e]; rfl)
   refine On (Mv ?_)
   refine On (Vl ?_)
   refine On (Mv ?_)
   refine FL_splitP (t := 40) rfl (fun hs125 => ?_) (fun hs125 => ?_)
   ·have hres := hall i c hc (by rw [hlow, decide_eq_false hnl, decide_eq_false hn95, decide_eq_false (by omega)]; rfl)
    refine Of (Of (On (Pt ?_)))
    refine On (Pt ?_)
    refine On (Pf ?_)
    refine Pt ?_
    refine Qn (FW_cond_true rfl ?_)
    refine Sr (Am ?_)
    refine Qn (Rb (Qround_ret (Qblk_ret (Qseq_ret (Qfn_ret (hR := ?_))))))
    exact ⟨by rw [hres]; rfl, H22.kept⟩
   refine On (Mv ?_)
   refine On (Vg ?_)
   refine On (Pf ?_)
   refine On (Pt ?_)
   refine On (Pf ?_)
   refine Pt ?_
   refine Qn (Cp rfl (fun hc139 => ?_) (fun hc139 => ?_))
   ·have hres := hall i c hc (by rw [hlow, decide_eq_false hnl, decide_eq_false hn95, decide_eq_false (by omega)]; rfl)
    refine Sr (Am ?_)
    refine Qn (Rb (Qround_ret (Qblk_ret (Qseq_ret (Qfn_ret (hR := ?_))))))
    exact ⟨by rw [hres]; rfl, H22.kept⟩
   have hn : nameB c = true := by rw [hlow, decide_eq_true (show 48 ≤ c.toNat ∧ c.toNat ≤ 57 by omega)]; simp
   refine FW_skip (Qblk_normal (Qseq_normal (FW_region (Mv ?_))))
   refine Vv (Gives.addI rfl rfl rfl (by omega)) (Am ?_)
   refine FL_nil ?_
   exact Qround_normal (i + 1) ⟨rfl, rfl, trivial⟩ ⟨⟨by omega, hnx hn, fun _ => hfi (by omega)⟩, H22⟩ (by omega)
  have hn : nameB c = true := by rw [hlow, decide_eq_true (h95.2 (by omega))]; simp
  refine Of (Of (Of (Ou (Ou (Of (On (Pf ?_)))))))
  refine On (Pf ?_)
  refine Pt ?_
  refine Qn (FW_cond_false rfl ?_)
  refine FW_skip (Qblk_normal (Qseq_normal (FW_region (Mv ?_))))
  refine Vv (Gives.addI rfl rfl rfl (by omega)) (Am ?_)
  refine FL_nil ?_
  exact Qround_normal (i + 1) ⟨rfl, rfl, trivial⟩ ⟨⟨by omega, hnx hn, fun _ => hfi (by omega)⟩, H22⟩ (by omega)
 have hil : i = s.length := by omega
 rw [hil, List.take_length] at hst
 refine FW_exit (Qseq_exit (Qround_exit (Qblk_exit (Qseq_normal (Sr (Am ?_))))))
 refine Qn (FW_ret (Qfn_ret (hR := ?_)))
 exact ⟨congrArg Value.bool (by unfold isNameS; rw [decide_eq_true hsh, hfi (by omega), hst]; rfl), H22.kept⟩
theorem namedR_ok {p : PlanM} {v : Value} (hp : PlanIn w v p) : Rets Tryz.prog 41 [v] w fun v w' => v = .bool (namedP p) ∧ Kept noB w w' := by
 obtain ⟨vw, vc, rfl, hw, r, hr, hraw⟩ := hp
 obtain ⟨A, m, rfl, ⟨hm, hm'⟩, hA⟩ := hr
 have hrl := hraw.len
 have H := Sep.start0 w
 refine rets1 Tryz.func41 rfl rfl rfl rfl ?_
 refine Sr (FL_box H (cs := [vw, .slice A r.length m, I p.group]) rfl (h := fun b1 w2 H2 k1 => ?_))
 refine Am ?_
 refine Nx (Vf ?_)
 refine Ld H2 ?_
 refine Vs ?_
 refine Am ?_
 refine Qn (FW_seq (Sr (Mv ?_)))
 refine Vl ?_
 refine Mv ?_
 refine FL_splitP (t := 11) rfl (fun hs11 => ?_) (fun hs11 => ?_)
 ·have hres : namedP p = false := named_not fun h => by omega
  refine Of (Of (Pt ?_))
  refine Mv ?_
  refine Of (Of (Of (Pt ?_)))
  refine Mv ?_
  refine Of (Of (Of (Of (Pt ?_))))
  refine Qn (FW_cond_true rfl ?_)
  refine Sr (Am ?_)
  refine Qn (Rs (Qfn_ret (hR := ?_)))
  exact ⟨by rw [hres]; rfl, H2.kept⟩
 refine On (Mv ?_)
 refine On (Vg ?_)
 refine Pf ?_
 refine Mv ?_
 refine FL_splitP (t := 15) rfl (fun hs24 => ?_) (fun hs24 => ?_)
 ·have hres : namedP p = false := named_not fun h => by omega
  refine Of (Of (Of (Pt ?_)))
  refine Mv ?_
  refine Of (Of (Of (Of (Pt ?_))))
  refine Qn (FW_cond_true rfl ?_)
  refine Sr (Am ?_)
  refine Qn (Rs (Qfn_ret (hR := ?_)))
  exact ⟨by rw [hres]; rfl, H2.kept⟩
 refine On (Vf ?_)
 refine On (Ld H2 ?_)
 refine On (Vl ?_)
 refine Pf ?_
 refine Mv ?_
 refine FL_splitP (t := 20) rfl (fun hs36 => ?_) (fun hs36 => ?_)
 ·have hres : namedP p = false := named_not fun h => by omega
  refine Of (Of (Of (Of (Pt ?_))))
  refine Qn (FW_cond_true rfl ?_)
  refine Sr (Am ?_)
  refine Qn (Rs (Qfn_ret (hR := ?_)))
  exact ⟨by rw [hres]; rfl, H2.kept⟩
 refine On (Vf ?_)
 refine On (Ld H2 ?_)
 refine On (Mv ?_)
 refine On (Vg ?_)
 refine Pf ?_
 refine Qn (Cp rfl (fun hc46 => ?_) (fun hc46 => ?_))
 ·have hres : namedP p = false := named_not fun h => by omega
  refine Sr (Am ?_)
  refine Qn (Rs (Qfn_ret (hR := ?_)))
  exact ⟨by rw [hres]; rfl, H2.kept⟩
 have hsh : 1 ≤ p.cols.length ∧ p.cols.length ≤ 16 ∧ -1 ≤ p.group ∧ p.group ≤ p.cols.length := by omega
 refine Sk (FW_seq (Sr (Am ?_)))
 refine Qn (FW_block (FW_loop' (fun i : Nat => [(1, selfP b1), (3, I r.length), (4, I i)]) (fun i w' => (i ≤ p.cols.length ∧ (∀ (a : Nat) x, a < i → p.cols[a]? = some x → isNameS x.name = true ∧ ¬ (0 ≤ p.group ∧ x.name = countW)) ∧ ∀ (a b : Nat) x y, a < b → b < i → p.cols[a]? = some x → p.cols[b]? = some y → x.name ≠ y.name) ∧ Sep w noB [blk b1 [vw, .slice A r.length m, I p.group] 25] w') (fun i _ => p.cols.length - i) 0 ⟨rfl, rfl, rfl, trivial⟩ ⟨⟨Nat.zero_le _, fun a x h => by omega, fun a b x y _ h => by omega⟩, H2⟩ (fun i τ w53 hI => ?_)))
 obtain ⟨⟨hi, hg, hd⟩, H53⟩ := hI
 try simp only [upds, like, upd_ds, und_ds]
 refine FW_seq (Sr (Mv ?_))
 refine Mv ?_
 refine Vl ?_
 refine Qn (Cp rfl (fun hc57 => ?_) (fun hc57 => ?_))
 ·have hlt : i < p.cols.length := by omega
  obtain ⟨vx, hx, hsx⟩ := hraw.at hlt
  have hpc : p.cols[i]? = some p.cols[i] := List.getElem?_eq_getElem hlt
  obtain ⟨o, ho⟩ : ∃ o, o = p.cols[i] := ⟨_, rfl⟩
  rw [← ho] at hx hsx hpc
  have hom := List.mem_of_getElem? hpc
  refine Sk (FW_seq (FW_block (FW_seq (Sr (Vf ?_)))))
  refine Ld H53 ?_
  refine Mv ?_
  refine Vv (Gives.idxR rfl rfl (by assumption) (by omega)) (Vv (Gives.fieldR rfl (by assumption) (by omega)) ?_)
  refine Vv (Gives.loadE rfl H53 (by assumption) (by assumption) rfl) (FL_callQ H53 (isName_ok11 o.name) (h := fun w66 H66 k65 => ?_))
  refine Vv (Gives.not rfl) (Mv ?_)
  refine FL_split (t := 39) rfl (fun hs69 => ?_) (fun hs69 => ?_)
  ·have hres : namedP p = false := named_not fun h => by rw [(h.2.1 o hom).1] at hs69; exact absurd hs69 (by decide)
   refine Of (Of (Of (Of (Ou (Ou (Ou (Ou (Ou (Ou (Ou (Of (Pt ?_))))))))))))
   refine Qn (FW_cond_true rfl ?_)
   refine Sr (Am ?_)
   refine Qn (Rs (Qblk_ret (Qseq_ret (Qround_ret (Qblk_ret (Qseq_ret (Qfn_ret (hR := ?_))))))))
   exact ⟨by rw [hres]; rfl, H66.kept⟩
  have hnm : isNameS o.name = true := by simpa using hs69
  refine On (Vf ?_)
  refine On (Ld H66 ?_)
  refine On (Vv (Gives.geq rfl rfl) (On ?_))
  refine Mv ?_
  refine FL_splitP (t := 43) rfl (fun hs79 => ?_) (fun hs79 => ?_)
  ·refine On (Vf ?_)
   refine On (Ld H66 ?_)
   refine On (Mv ?_)
   refine On (Vv (Gives.idxR rfl rfl (by assumption) (by omega)) (On ?_))
   refine Vv (Gives.fieldR rfl (by assumption) (by omega)) (On ?_)
   refine Vv (Gives.loadE rfl H66 (by assumption) (by assumption) rfl) (On ?_)
   refine Vv (Gives.eqlT rfl rfl) (On ?_)
   refine Pt ?_
   refine Pf ?_
   refine Qn (Cp rfl (fun hc89 => ?_) (fun hc89 => ?_))
   ·have hres : namedP p = false := named_not fun h => (h.2.1 o hom).2 ⟨by omega, hc89⟩
    refine Sr (Am ?_)
    refine Qn (Rs (Qblk_ret (Qseq_ret (Qround_ret (Qblk_ret (Qseq_ret (Qfn_ret (hR := ?_))))))))
    exact ⟨by rw [hres]; rfl, H66.kept⟩
   have hgo : ¬ (0 ≤ p.group ∧ o.name = countW) := fun h => hc89 h.2
   refine Sk (Sr (Am ?_))
   refine Qn (FW_block (FW_loop' (fun k : Nat => [(1, selfP b1), (3, I r.length), (4, I i), (5, I k)]) (fun k w' => (k ≤ i ∧ ∀ (a : Nat) x, a < k → p.cols[a]? = some x → x.name ≠ o.name) ∧ Sep w noB [blk b1 [vw, .slice A r.length m, I p.group] 25] w') (fun k _ => i - k) 0 ⟨rfl, rfl, rfl, rfl, trivial⟩ ⟨⟨Nat.zero_le _, fun a x h => by omega⟩, H66⟩ (fun k τ w96 hI => ?_)))
   obtain ⟨⟨hk, hdk⟩, H96⟩ := hI
   try simp only [upds, like, upd_ds]
   refine FW_seq (Sr (Mv ?_))
   refine Mv ?_
   refine Vl ?_
   refine Qn (Cp rfl (fun hc100 => ?_) (fun hc100 => ?_))
   ·have hkt : k < i := by omega
    obtain ⟨vy, hy, hsy⟩ := hraw.at (show k < p.cols.length by omega)
    have hpk : p.cols[k]? = some (p.cols[k]'(by omega)) := List.getElem?_eq_getElem (by omega)
    obtain ⟨u, hu⟩ : ∃ u, u = p.cols[k]'(by omega) := ⟨_, rfl⟩
    rw [← hu] at hy hsy hpk
    refine Sk (FW_seq (FW_block (FW_seq (FW_drawS rfl H96 (h := fun hok102 w104 H104 => ?_)))))
    refine Gp hok102 0 rfl rfl (fun _ => (Gives.field0 rfl)) (FGload hok102 1 H104 (h := ?_))
    refine Gm hok102 2 ?_
    refine Gp hok102 3 rfl rfl (fun _ => (Gives.idxR rfl rfl (by assumption) (by omega))) (Gp hok102 4 rfl rfl (fun _ => (Gives.fieldR rfl (by assumption) (by omega))) ?_)
    refine Gl hok102 5 rfl rfl (Gives.loadE (i := k) (f := 0) rfl H104 hA hy rfl) (Gp hok102 6 rfl rfl (fun _ => (Gives.field0 rfl)) ?_)
    refine FGload hok102 7 H104 (h := ?_)
    refine Gm hok102 8 ?_
    refine Gp hok102 9 rfl rfl (fun _ => (Gives.idxR rfl rfl (by assumption) (by omega))) (Gp hok102 10 rfl rfl (fun _ => (Gives.fieldR rfl (by assumption) (by omega))) ?_)
    refine Gl hok102 11 rfl rfl (Gives.loadE (i := i) (f := 0) rfl H104 hA hx rfl) (Gp hok102 12 rfl rfl (fun _ => (Gives.eqlT rfl rfl)) ?_)
    refine FG_end hok102 (by kernel_rfl) ?_
    refine Qseq_normal (Cp rfl (fun hc116 => ?_) (fun hc116 => ?_))
    ·have hres : namedP p = false := named_not fun h => nodup_at.1 h.2.2 k i u o hkt hpk hpc hc116
     refine Sr (Am ?_)
     refine Qn (Rb (Qround_ret (Qblk_ret (Qblk_ret (Qseq_ret (Qround_ret (Qblk_ret (Qseq_ret (Qfn_ret (hR := ?_))))))))))
     exact ⟨by rw [hres]; rfl, H104.kept⟩
    refine FW_skip (Qblk_normal (Qseq_normal (FW_region (Mv ?_))))
    refine Vv (Gives.addI rfl rfl rfl (by omega)) (Am ?_)
    refine FL_nil ?_
    exact Qround_normal (k + 1) ⟨rfl, rfl, rfl, rfl, trivial⟩ ⟨⟨by omega, fun a x ha hx' => by
    rcases Nat.lt_succ_iff_lt_or_eq.1 ha with e | e
    ·exact hdk a x e hx'
    subst e; rw [hpk] at hx'; injection hx' with hx'; rw [← hx']; assumption⟩, H104⟩ (by omega)
   have hki : k = i := by omega
   refine FW_exit (Qseq_exit (Qround_exit (Qblk_exit (Qblk_normal (Qseq_normal (FW_region (Mv ?_)))))))
   refine Vv (Gives.addI rfl rfl rfl (by omega)) (Am ?_)
   refine FL_nil ?_
   exact Qround_normal (i + 1) ⟨rfl, rfl, rfl, trivial⟩ ⟨⟨by omega, fun a x ha hx' => by
   rcases Nat.lt_succ_iff_lt_or_eq.1 ha with e | e
   ·exact hg a x e hx'
   ·subst e; rw [hpc] at hx'; injection hx' with hx'; rw [← hx']; exact ⟨hnm, hgo⟩, fun a b x y hab hb hx' hy' => by
   rcases Nat.lt_succ_iff_lt_or_eq.1 hb with e | e
   ·exact hd a b x y hab e hx' hy'
   subst e; rw [hpc] at hy'; injection hy' with hy'; rw [← hy']; exact hdk a x (by omega) hx'⟩, H96⟩ (by omega)
  have hgo : ¬ (0 ≤ p.group ∧ o.name = countW) := fun h => hs79 h.1
  refine Of (Of (Of (Of (Of (Of (Of (On (Pf ?_))))))))
  refine Pf ?_
  refine Qn (FW_cond_false rfl ?_)
  refine Sk (Sr (Am ?_))
  refine Qn (FW_block (FW_loop' (fun k : Nat => [(1, selfP b1), (3, I r.length), (4, I i), (5, I k)]) (fun k w' => (k ≤ i ∧ ∀ (a : Nat) x, a < k → p.cols[a]? = some x → x.name ≠ o.name) ∧ Sep w noB [blk b1 [vw, .slice A r.length m, I p.group] 25] w') (fun k _ => i - k) 0 ⟨rfl, rfl, rfl, rfl, trivial⟩ ⟨⟨Nat.zero_le _, fun a x h => by omega⟩, H66⟩ (fun k τ w134 hI => ?_)))
  obtain ⟨⟨hk, hdk⟩, H134⟩ := hI
  try simp only [upds, like, upd_ds]
  refine FW_seq (Sr (Mv ?_))
  refine Mv ?_
  refine Vl ?_
  refine Qn (Cp rfl (fun hc138 => ?_) (fun hc138 => ?_))
  ·have hkt : k < i := by omega
   obtain ⟨vy, hy, hsy⟩ := hraw.at (show k < p.cols.length by omega)
   have hpk : p.cols[k]? = some (p.cols[k]'(by omega)) := List.getElem?_eq_getElem (by omega)
   obtain ⟨u, hu⟩ : ∃ u, u = p.cols[k]'(by omega) := ⟨_, rfl⟩
   rw [← hu] at hy hsy hpk
   refine Sk (FW_seq (FW_block (FW_seq (FW_drawS rfl H134 (h := fun hok140 w142 H142 => ?_)))))
   refine Gp hok140 0 rfl rfl (fun _ => (Gives.field0 rfl)) (FGload hok140 1 H142 (h := ?_))
   refine Gm hok140 2 ?_
   refine Gp hok140 3 rfl rfl (fun _ => (Gives.idxR rfl rfl (by assumption) (by omega))) (Gp hok140 4 rfl rfl (fun _ => (Gives.fieldR rfl (by assumption) (by omega))) ?_)
   refine Gl hok140 5 rfl rfl (Gives.loadE (i := k) (f := 0) rfl H142 hA hy rfl) (Gp hok140 6 rfl rfl (fun _ => (Gives.field0 rfl)) ?_)
   refine FGload hok140 7 H142 (h := ?_)
   refine Gm hok140 8 ?_
   refine Gp hok140 9 rfl rfl (fun _ => (Gives.idxR rfl rfl (by assumption) (by omega))) (Gp hok140 10 rfl rfl (fun _ => (Gives.fieldR rfl (by assumption) (by omega))) ?_)
   refine Gl hok140 11 rfl rfl (Gives.loadE (i := i) (f := 0) rfl H142 hA hx rfl) (Gp hok140 12 rfl rfl (fun _ => (Gives.eqlT rfl rfl)) ?_)
   refine FG_end hok140 (by kernel_rfl) ?_
   refine Qseq_normal (Cp rfl (fun hc154 => ?_) (fun hc154 => ?_))
   ·have hres : namedP p = false := named_not fun h => nodup_at.1 h.2.2 k i u o hkt hpk hpc hc154
    refine Sr (Am ?_)
    refine Qn (Rb (Qround_ret (Qblk_ret (Qblk_ret (Qseq_ret (Qround_ret (Qblk_ret (Qseq_ret (Qfn_ret (hR := ?_))))))))))
    exact ⟨by rw [hres]; rfl, H142.kept⟩
   refine FW_skip (Qblk_normal (Qseq_normal (FW_region (Mv ?_))))
   refine Vv (Gives.addI rfl rfl rfl (by omega)) (Am ?_)
   refine FL_nil ?_
   exact Qround_normal (k + 1) ⟨rfl, rfl, rfl, rfl, trivial⟩ ⟨⟨by omega, fun a x ha hx' => by
   rcases Nat.lt_succ_iff_lt_or_eq.1 ha with e | e
   ·exact hdk a x e hx'
   subst e; rw [hpk] at hx'; injection hx' with hx'; rw [← hx']; assumption⟩, H142⟩ (by omega)
  have hki : k = i := by omega
  refine FW_exit (Qseq_exit (Qround_exit (Qblk_exit (Qblk_normal (Qseq_normal (FW_region (Mv ?_)))))))
  refine Vv (Gives.addI rfl rfl rfl (by omega)) (Am ?_)
  refine FL_nil ?_
  exact Qround_normal (i + 1) ⟨rfl, rfl, rfl, trivial⟩ ⟨⟨by omega, fun a x ha hx' => by
  rcases Nat.lt_succ_iff_lt_or_eq.1 ha with e | e
  ·exact hg a x e hx'
  ·subst e; rw [hpc] at hx'; injection hx' with hx'; rw [← hx']; exact ⟨hnm, hgo⟩, fun a b x y hab hb hx' hy' => by
  rcases Nat.lt_succ_iff_lt_or_eq.1 hb with e | e
  ·exact hd a b x y hab e hx' hy'
  subst e; rw [hpc] at hy'; injection hy' with hy'; rw [← hy']; exact hdk a x (by omega) hx'⟩, H134⟩ (by omega)
 have hil : i = p.cols.length := by omega
 refine FW_exit (Qseq_exit (Qround_exit (Qblk_exit (Qseq_normal (Sr (Am ?_))))))
 refine Qn (FW_ret (Qfn_ret (hR := ?_)))
 exact ⟨congrArg Value.bool (Eq.symm (named_iff.2 ⟨hsh, fun o ho => by
 obtain ⟨a, ha⟩ := List.mem_iff_getElem?.1 ho
 exact hg a o (by have := (List.getElem?_eq_some_iff.1 ha).1; omega) ha, nodup_at.2 fun a b x y hab hx' hy' => hd a b x y hab (by have := (List.getElem?_eq_some_iff.1 hy').1; omega) hx' hy'⟩)), H53.kept⟩
end
end Go.Proofs.YtolaedhdjcnijaaGreatDoor
