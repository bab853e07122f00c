/-
 The document's check of a plan, walked.
-/
import Derived.Test.YtolaedhdjcnijaaGreatDoorKt24
import Derived.Test.YtolaedhdjcnijaaGreatDoorKt23
import Derived.Test.YtolaedhdjcnijaaGreatDoorKt21
import Derived.Test.YtolaedhdjcnijaaGreatDoorKt22
set_option linter.unusedVariables false
set_option linter.unusedSimpArgs false
namespace Go.Proofs.YtolaedhdjcnijaaGreatDoor
open Go Go.Mw Go.Lib
set_option maxRecDepth 4000
section
variable {w : World}
theorem column_ok23 (id : Int) (name : List UInt8) (t : TypeM) : Rets Tryz.prog 71 [I id, str name, agg (typeCells t)] w fun v w' => v = agg (colCells (colP id name t)) ∧ Kept noB w w' := by
 have H := Sep.start0 w
 refine retsC3 Tryz.func71 rfl rfl rfl rfl ?_
 refine Sr (FL_box H (cs := typeCells t) rfl (h := fun b5 w2 H2 k1 => ?_))
 refine FL_alloc H2 (h := fun b6 w4 H4 k3 => ?_)
 refine Qn (FW_seq (FW_drawS rfl H4 (h := fun hok5 w7 H7 => ?_)))
 refine Gm hok5 0 ?_
 refine Gm hok5 1 ?_
 refine FGloadAll hok5 2 H7 (h := ?_)
 refine FGloadAll hok5 3 H7 (h := ?_)
 refine FGcallQ hok5 4 [(2, false), (1, true), (0, true)] H7 (zero_ok9 t) (h := fun w11 H11 k10 => ⟨(Stab_cons rfl (by kernel_rfl) (Gives.loadN rfl (H11.obj At1) (us := typeCells t) rfl rfl) rfl (Stab_pure (Stab_pure (Stab_nil)))), ?_⟩)
 refine Gp hok5 5 rfl rfl (fun _ => (Gives.build (out := colCells (colP id name t)) (Fills.one rfl rfl rfl (by simp) rfl (Fills.one rfl rfl rfl (by simp) rfl (Fills.many rfl rfl (Nat.le_of_ble_eq_true rfl) rfl (Fills.many rfl rfl (Nat.le_of_ble_eq_true rfl) rfl Fills.nil)))))) (FGstoreAll hok5 6 [] H11 (h := fun w14 H14 => ⟨Stab_nil, ?_⟩))
 refine FG_end hok5 (by kernel_rfl) ?_
 refine Qseq_normal (FW_ret (QfnC_ret (h := ?_)))
 exact ⟨_, resC1 H14, rfl, H14.kept⟩
theorem checkR_ok {cols : List ColM} {p : PlanM} {vc vp : Value} (hc : RowIn w vc colCells 7 cols) (hp : PlanIn w vp p) :
    Rets Tryz.prog 29 [vc, vp] w fun v w' => ∃ x, v = .tuple #[x, I (checkP cols p).2] ∧ True ∧ Turn noB (rowD 49 7 colCells x (checkP cols p).1) w w' := by
  have hp0 := hp
  obtain ⟨vw, vq, rfl, hw, r, hr, hraw⟩ := hp
  obtain ⟨A, m, rfl, ⟨hm, hm'⟩, hA⟩ := hr
  have hrl := hraw.len
  have H := Sep.start0 w
  obtain ⟨res, hres⟩ : ∃ res, res = checkP cols p := ⟨_, rfl⟩
  rw [← hres]
  unfold checkP at hres
  obtain ⟨C, n, rfl, ⟨hwn, hwn'⟩, hC⟩ := id hw
  refine rets2 Tryz.func29 rfl rfl rfl rfl ?_
  refine Sr (FL_box H (cs := [.slice C p.wh.length n, .slice A r.length m, I p.group]) rfl (h := fun b3 w2 H2 k1 => ?_))
  refine Am ?_
  refine Am ?_
  refine Qn (FW_seq (Sr (FL_loadAll H2 (h := ?_))))
  refine FL_callQ H2 (namedR_ok (hp0.keep H2.kept)) (h := fun w7 H7 k6 => ?_)
  refine Vv (Gives.not rfl) (Qn ?_)
  refine Cd rfl (fun hc9 => ?_) (fun hc9 => ?_)
  · rw [if_pos (by simpa using hc9)] at hres
    refine Sr (Am ?_)
    refine Am ?_
    refine Qn (Rs (Qfn_ret (hR := ?_)))
    exact ⟨_, by rw [hres]; rfl, trivial, by rw [hres]; exact (Sep.nilD H7 49 7 colCells).first.turn⟩
  rw [if_neg (by simpa using hc9)] at hres
  have hn16 : p.cols.length ≤ 16 := (named_cols (by simpa using hc9)).1.2.1
  refine Sk (FW_cut (fun _ : Unit => [(0, vc), (3, selfP b3)]) (fun _ w' => res = outsP cols p.group 0 p.cols [] ∧ Sep w noB [blk b3 [.slice C p.wh.length n, .slice A r.length m, I p.group] 25] w') ?_ ?_)
  · refine Sr (Vf ?_)
    refine Ld H7 ?_
    refine Vs ?_
    refine Vg ?_
    refine Qn (Cp rfl (fun hc20 => ?_) (fun hc20 => ?_))
    · have hne : p.wh ≠ [] := fun e => by rw [e] at hc20; exact absurd hc20 (by decide)
      refine Sr (Mv ?_)
      refine Vf ?_
      refine Ld H7 ?_
      refine FL_callQ H7 (type_ok22 (hc.keep H7.kept) (hw.keep H7.kept)) (h := fun w26 H26 k25 => ?_)
      refine Mv ?_
      refine Vx ?_
      refine Vx ?_
      refine FL_alloc H26 (h := fun b6 w31 H31 k30 => ?_)
      refine FL_storeAll H31 (h := fun w33 H33 => ?_)
      refine Am ?_
      refine Qn (FW_seq (Sr (Mv ?_)))
      refine Vn ?_
      refine Qn (Cp rfl (fun hc37 => ?_) (fun hc37 => ?_))
      · rw [if_pos ⟨hne, hc37⟩] at hres
        refine Sr (Mv ?_)
        refine Am ?_
        refine Am ?_
        refine Qn (Rs (Qcut_ret (Qfn_ret (hR := ?_))))
        exact ⟨_, by rw [hres]; rfl, trivial, by rw [hres]; exact (Sep.nilD H33 49 7 colCells).first.turn⟩
      rw [if_neg (fun h => hc37 h.2)] at hres
      refine Sk (Sr (Vf ?_))
      refine Ld H33 ?_
      refine Vn ?_
      refine Qn (Cp rfl (fun hc47 => ?_) (fun hc47 => ?_))
      · rw [if_pos ⟨hne, hc47⟩] at hres
        refine Sr (Am ?_)
        refine Am ?_
        refine Qn (FW_ret (Qcut_ret (Qfn_ret (hR := ?_))))
        exact ⟨_, by rw [hres]; rfl, trivial, by rw [hres]; exact (Sep.nilD H33 49 7 colCells).first.turn⟩
      rw [if_neg (fun h => hc47 h.2)] at hres
      refine FW_skip ?_
      exact Qcut_normal () ⟨rfl, rfl, trivial⟩ ⟨hres, H33.drop0⟩
    have he : p.wh = [] := List.eq_nil_of_length_eq_zero (by omega)
    rw [if_neg (fun h => h.1 he), if_neg (fun h => h.1 he)] at hres
    refine FW_skip ?_
    exact Qcut_normal () ⟨rfl, rfl, trivial⟩ ⟨hres, H7⟩
  rintro _ τ w57 ⟨hres2, H57⟩
  simp only [upds, like, upd_ds, und_ds]
  refine Sr (Vv (Gives.build (out := typeCells wholeT) (Fills.one rfl rfl rfl (by simp) rfl Fills.nil)) (FL_alloc H57 (h := fun b8 w60 H60 k59 => ?_)))
  refine FL_storeAll H60 (h := fun w62 H62 => ?_)
  refine Nx (Am ?_)
  refine Qn (FW_seq (Sr (Am ?_)))
  refine Qn (FW_block ?_)
  have H66 := Sep.nilD H62 49 7 colCells
  refine FW_loop' (fun x : Nat × List ColM × Value => [(0, vc), (3, selfP b3), (8, selfP b8), (9, x.2.2), (10, I x.1)]) (fun x w' => (x.1 ≤ r.length ∧ x.2.1.length ≤ 2 * x.1 ∧ outsP cols p.group x.1 (p.cols.drop x.1) x.2.1 = res) ∧ Sep w noB [rowD 49 7 colCells x.2.2 x.2.1, blk b8 (typeCells wholeT) 45, blk b3 [.slice C p.wh.length n, .slice A r.length m, I p.group] 25] w') (fun x _ => r.length - x.1) (0, [], .slice none 0 0) ⟨rfl, rfl, rfl, rfl, rfl, trivial⟩ ⟨⟨Nat.zero_le _, by decide, hres2.symm⟩, H66⟩ (fun x τ w66 hI => ?_)
  obtain ⟨i, acc, v0⟩ := x
  obtain ⟨⟨hi, hal, hst⟩, H66⟩ := hI
  dsimp only at hi hal hst H66
  try simp only [upds, like, upd_ds]
  refine FW_seq (Sr (Mv ?_))
  refine Vf ?_
  refine Ld H66 ?_
  refine Vs ?_
  refine Vl ?_
  refine Qn (Cp rfl (fun hc72 => ?_) (fun hc72 => ?_))
  · have hlt : i < p.cols.length := by omega
    obtain ⟨vx, hx, hsx⟩ := hraw.at hlt
    have hpc : p.cols[i]? = some p.cols[i] := List.getElem?_eq_getElem hlt
    obtain ⟨o, ho⟩ : ∃ o, o = p.cols[i] := ⟨_, rfl⟩
    rw [← ho] at hx hsx hpc
    rw [outs_snoc hpc, outsP] at hst
    refine Sk (FW_seq (FW_block (Sr (Mv ?_))))
    refine Vf ?_
    refine Ld H66 ?_
    refine Mv ?_
    refine Vv (Gives.idxR rfl rfl (by assumption) (by omega)) (Vv (Gives.fieldR rfl (by assumption) (by omega)) ?_)
    refine Vv (Gives.loadE rfl H66 (by assumption) (by assumption) rfl) (FL_callQ H66 (type_ok22 (hc.keep H66.kept) (hsx.keep H66.kept)) (h := fun w82 H82 k81 => ?_))
    refine Mv ?_
    refine Vx ?_
    refine Vx ?_
    refine FL_alloc H82 (h := fun b11 w87 H87 k86 => ?_)
    refine FL_storeAll H87 (h := fun w89 H89 => ?_)
    refine Am ?_
    refine Qn (FW_seq (Sr (Mv ?_)))
    refine Vn ?_
    refine Qn (Cp rfl (fun hc93 => ?_) (fun hc93 => ?_))
    · rw [if_pos hc93] at hst
      refine Sr (Mv ?_)
      refine Am ?_
      refine Am ?_
      refine Qn (Rs (Qblk_ret (Qseq_ret (Qround_ret (Qblk_ret (Qseq_ret (Qfn_ret (hR := ?_))))))))
      exact ⟨_, by rw [← hst]; rfl, trivial, by rw [← hst]; exact (Sep.nilD H89 49 7 colCells).first.turn⟩
    rw [if_neg hc93] at hst
    refine Sk (FW_cut (fun z : Value => [(0, vc), (3, selfP b3), (8, selfP b8), (9, z), (10, I i), (11, selfP b11)]) (fun z w' => Sep w noB [rowD 49 7 colCells z (if (i : Int) = p.group then acc ++ [colP ((i : Int) + 1) countW wholeT] else acc), blk b11 (typeCells (typeS cols o.steps).1) 45, blk b8 (typeCells wholeT) 45, blk b3 [.slice C p.wh.length n, .slice A r.length m, I p.group] 25] w') ?_ ?_)
    · refine Sr (Vf ?_)
      refine Ld H89 ?_
      refine Vv (Gives.geq rfl rfl) (Mv ?_)
      refine FL_splitP (t := 58) rfl (fun hs105 => ?_) (fun hs105 => ?_)
      · refine On (Mv ?_)
        refine On (Vf ?_)
        refine On (Ld H89 ?_)
        refine On (Ve ?_)
        refine Pt ?_
        refine Qn (Cp rfl (fun hc111 => ?_) (fun hc111 => ?_))
        · have hig : (i : Int) = p.group := hc111
          refine FW_region (Mv ?_)
          refine Mv ?_
          refine Vv (Gives.addI (c := (i : Int) + 1) rfl rfl rfl (by omega)) (FL_loadAll H89 (h := ?_))
          refine FL_callQ H89 (column_ok23 ((i : Int) + 1) countW wholeT) (h := fun w118 H118 k117 => ?_)
          refine FL_buildSlice H118 (xs := [.tmp 68]) (out := [colP ((i : Int) + 1) countW wholeT].flatMap colCells) (Elems.many rfl rfl Elems.nil) rfl rfl rfl (fun bs w120 H120 k119 => ?_)
          refine FL_appendD H120 (news := [colP ((i : Int) + 1) countW wholeT]) At1 (by unfold maxLen; simp; omega) (by simp; omega) (cells_one (fun _ => rfl) _) (h := ?_)
          intro v2 w122 H122
          refine Am ?_
          refine FL_nil ?_
          exact Qcut_normal v2 ⟨rfl, rfl, rfl, rfl, rfl, rfl, trivial⟩ (by rw [if_pos hig]; exact H122.front1)
        have hig : ¬ (i : Int) = p.group := hc111
        refine FW_skip ?_
        exact Qcut_normal v0 ⟨rfl, rfl, rfl, rfl, rfl, rfl, trivial⟩ (by rw [if_neg hig]; exact H89.front1)
      have hig : ¬ (i : Int) = p.group := fun e => hs105 (by omega)
      refine Of (Of (Of (Of (Pf ?_))))
      refine Qn (FW_cond_false rfl ?_)
      refine FW_skip ?_
      exact Qcut_normal v0 ⟨rfl, rfl, rfl, rfl, rfl, rfl, trivial⟩ (by rw [if_neg hig]; exact H89.front1)
    intro v1 τ w131 H131
    simp only [upds, like, upd_ds]
    refine FW_seq (Sr (Vf ?_))
    refine Ld H131 ?_
    refine Vl ?_
    refine Mv ?_
    refine FL_splitP (t := 74) rfl (fun hs136 => ?_) (fun hs136 => ?_)
    · have hgi : ¬ (0 ≤ p.group ∧ p.group ≤ i) := fun h => by omega
      rw [if_neg hgi] at hst
      refine Of (Of (Of (Of (Pt ?_))))
      refine Qn (FW_cond_true rfl ?_)
      refine FW_seq (FW_drawS rfl H131 (h := fun hok139 w141 H141 => ?_))
      refine Gm hok139 0 ?_
      refine Gm hok139 1 ?_
      refine Gp hok139 2 rfl rfl (fun _ => (Gives.addI (c := (i : Int) + 1) rfl rfl rfl (by omega))) (Gp hok139 3 rfl rfl (fun _ => (Gives.field0 rfl)) ?_)
      refine FGload hok139 4 H141 (h := ?_)
      refine Gm hok139 5 ?_
      refine Gp hok139 6 rfl rfl (fun _ => (Gives.idxR rfl rfl (by assumption) (by omega))) (Gp hok139 7 rfl rfl (fun _ => (Gives.fieldR rfl (by assumption) (by omega))) ?_)
      refine Gl hok139 8 rfl rfl (Gives.loadE rfl H141 (by assumption) (by assumption) rfl) (FGloadAll hok139 9 H141 (h := ?_))
      have hig2 : ¬ (i : Int) = p.group := fun e => hgi ⟨by omega, by omega⟩
      rw [if_neg hig2] at H141
      refine FGcallQ hok139 10 [(0, true)] H141 (column_ok23 ((i : Int) + 1) o.name (typeS cols o.steps).1) (h := fun w150 H150 k149 => ⟨Stab_pure (Stab_nil), ?_⟩)
      refine FGbuildSlice hok139 11 [(0, true)] H150 (xs := [.tmp 90]) (out := [colP ((i : Int) + 1) o.name (typeS cols o.steps).1].flatMap colCells) (Elems.many rfl rfl Elems.nil) (h := fun bs w152 H152 => ⟨Stab_pure (Stab_nil), ?_⟩)
      refine FGappendD hok139 12 [] H152 (news := [colP ((i : Int) + 1) o.name (typeS cols o.steps).1]) At0 (by unfold maxLen; simp; omega) (by simp; omega) (cells_one (fun _ => rfl) _) (h := fun v3 w154 H154 => ⟨Stab_nil, ?_⟩)
      refine FGset hok139 13 [] (h := ⟨Stab_nil, ?_⟩)
      refine FG_end hok139 (by kernel_rfl) ?_
      refine Qseq_normal (FW_exit (Qseq_exit (Qblk_exit (Qseq_normal (FW_region (Mv ?_))))))
      refine Vv (Gives.addI rfl rfl rfl (by omega)) (Am ?_)
      refine FL_nil ?_
      exact Qround_normal (i + 1, acc ++ [colP ((i : Int) + 1) o.name (typeS cols o.steps).1], v3) ⟨rfl, rfl, rfl, rfl, rfl, trivial⟩ ⟨⟨by dsimp only; omega, by dsimp only; rw [List.length_append, List.length_singleton]; omega, hst⟩, H154.front1.drop0⟩ (by dsimp only; omega)
    refine On (Mv ?_)
    refine On (Vf ?_)
    refine On (Ld H131 ?_)
    refine On (Vl ?_)
    refine Pf ?_
    refine Qn (Cp rfl (fun hc165 => ?_) (fun hc165 => ?_))
    · have hgi : ¬ (0 ≤ p.group ∧ p.group ≤ i) := fun h => by omega
      rw [if_neg hgi] at hst
      refine FW_seq (FW_drawS rfl H131 (h := fun hok167 w169 H169 => ?_))
      refine Gm hok167 0 ?_
      refine Gm hok167 1 ?_
      refine Gp hok167 2 rfl rfl (fun _ => (Gives.addI (c := (i : Int) + 1) rfl rfl rfl (by omega))) (Gp hok167 3 rfl rfl (fun _ => (Gives.field0 rfl)) ?_)
      refine FGload hok167 4 H169 (h := ?_)
      refine Gm hok167 5 ?_
      refine Gp hok167 6 rfl rfl (fun _ => (Gives.idxR rfl rfl (by assumption) (by omega))) (Gp hok167 7 rfl rfl (fun _ => (Gives.fieldR rfl (by assumption) (by omega))) ?_)
      refine Gl hok167 8 rfl rfl (Gives.loadE rfl H169 (by assumption) (by assumption) rfl) (FGloadAll hok167 9 H169 (h := ?_))
      have hig2 : ¬ (i : Int) = p.group := fun e => hgi ⟨by omega, by omega⟩
      rw [if_neg hig2] at H169
      refine FGcallQ hok167 10 [(0, true)] H169 (column_ok23 ((i : Int) + 1) o.name (typeS cols o.steps).1) (h := fun w178 H178 k177 => ⟨Stab_pure (Stab_nil), ?_⟩)
      refine FGbuildSlice hok167 11 [(0, true)] H178 (xs := [.tmp 90]) (out := [colP ((i : Int) + 1) o.name (typeS cols o.steps).1].flatMap colCells) (Elems.many rfl rfl Elems.nil) (h := fun bs w180 H180 => ⟨Stab_pure (Stab_nil), ?_⟩)
      refine FGappendD hok167 12 [] H180 (news := [colP ((i : Int) + 1) o.name (typeS cols o.steps).1]) At0 (by unfold maxLen; simp; omega) (by simp; omega) (cells_one (fun _ => rfl) _) (h := fun v3 w182 H182 => ⟨Stab_nil, ?_⟩)
      refine FGset hok167 13 [] (h := ⟨Stab_nil, ?_⟩)
      refine FG_end hok167 (by kernel_rfl) ?_
      refine Qseq_normal (FW_exit (Qseq_exit (Qblk_exit (Qseq_normal (FW_region (Mv ?_))))))
      refine Vv (Gives.addI rfl rfl rfl (by omega)) (Am ?_)
      refine FL_nil ?_
      exact Qround_normal (i + 1, acc ++ [colP ((i : Int) + 1) o.name (typeS cols o.steps).1], v3) ⟨rfl, rfl, rfl, rfl, rfl, trivial⟩ ⟨⟨by dsimp only; omega, by dsimp only; rw [List.length_append, List.length_singleton]; omega, hst⟩, H182.front1.drop0⟩ (by dsimp only; omega)
    have hgi : 0 ≤ p.group ∧ p.group ≤ i := by omega
    rw [if_pos hgi] at hst
    refine Sk (FW_seq (Sr (Vf ?_)))
    refine Ld H131 ?_
    refine Vn ?_
    refine Qn (Cp rfl (fun hc192 => ?_) (fun hc192 => ?_))
    · rw [if_pos hc192] at hst
      refine Sr (Am ?_)
      refine Am ?_
      refine Qn (Rs (Qblk_ret (Qseq_ret (Qround_ret (Qblk_ret (Qseq_ret (Qfn_ret (hR := ?_))))))))
      exact ⟨_, by rw [← hst]; rfl, trivial, by rw [← hst]; exact (Sep.nilD H131 49 7 colCells).first.turn⟩
    rw [if_neg hc192] at hst
    obtain ⟨acc2, hacc2⟩ : ∃ acc2, acc2 = if (i : Int) = p.group then acc ++ [colP ((i : Int) + 1) countW wholeT] else acc := ⟨_, rfl⟩
    rw [← hacc2] at H131 hst
    have hal2 : acc2.length ≤ 2 * i + 1 := by
      rw [hacc2]
      split
      · rw [List.length_append, List.length_singleton]; omega
      omega
    refine Sk (FW_drawS rfl H131 (h := fun hok198 w200 H200 => ?_))
    refine Gm hok198 0 ?_
    refine Gm hok198 1 ?_
    refine Gp hok198 2 rfl rfl (fun _ => (Gives.addI (c := (i : Int) + 2) rfl rfl rfl (by omega))) (Gp hok198 3 rfl rfl (fun _ => (Gives.field0 rfl)) ?_)
    refine FGload hok198 4 H200 (h := ?_)
    refine Gm hok198 5 ?_
    refine Gp hok198 6 rfl rfl (fun _ => (Gives.idxR rfl rfl (by assumption) (by omega))) (Gp hok198 7 rfl rfl (fun _ => (Gives.fieldR rfl (by assumption) (by omega))) ?_)
    refine Gl hok198 8 rfl rfl (Gives.loadE rfl H200 (by assumption) (by assumption) rfl) (FGloadAll hok198 9 H200 (h := ?_))
    refine FGcallQ hok198 10 [(0, true)] H200 (column_ok23 ((i : Int) + 2) o.name wholeT) (h := fun w209 H209 k208 => ⟨Stab_pure (Stab_nil), ?_⟩)
    refine FGbuildSlice hok198 11 [(0, true)] H209 (xs := [.tmp 106]) (out := [colP ((i : Int) + 2) o.name wholeT].flatMap colCells) (Elems.many rfl rfl Elems.nil) (h := fun bs w211 H211 => ⟨Stab_pure (Stab_nil), ?_⟩)
    refine FGappendD hok198 12 [] H211 (news := [colP ((i : Int) + 2) o.name wholeT]) At0 (by unfold maxLen; simp; omega) (by simp; omega) (cells_one (fun _ => rfl) _) (h := fun v3 w213 H213 => ⟨Stab_nil, ?_⟩)
    refine FGset hok198 13 [] (h := ⟨Stab_nil, ?_⟩)
    refine FG_end hok198 (by kernel_rfl) ?_
    refine Qblk_normal (Qseq_normal (FW_region (Mv ?_)))
    refine Vv (Gives.addI rfl rfl rfl (by omega)) (Am ?_)
    refine FL_nil ?_
    exact Qround_normal (i + 1, acc2 ++ [colP ((i : Int) + 2) o.name wholeT], v3) ⟨rfl, rfl, rfl, rfl, rfl, trivial⟩ ⟨⟨by dsimp only; omega, by dsimp only; rw [List.length_append, List.length_singleton]; omega, hst⟩, H213.front1.drop0⟩ (by dsimp only; omega)
  have hil : i = r.length := by omega
  rw [hil, hrl, List.drop_length, outsP] at hst
  refine FW_exit (Qseq_exit (Qround_exit (Qblk_exit (Qseq_normal (FW_seq (Sr (Vf ?_)))))))
  refine Ld H66 ?_
  refine Vf ?_
  refine Ld H66 ?_
  refine Vs ?_
  refine Ve ?_
  refine Qn (Cp rfl (fun hc226 => ?_) (fun hc226 => ?_))
  · rw [if_pos (by omega)] at hst
    refine FW_region (Mv ?_)
    refine Vf ?_
    refine Ld H66 ?_
    refine Vv (Gives.addI (c := p.group + 1) rfl rfl rfl (by omega)) (FL_loadAll H66 (h := ?_))
    refine FL_callQ H66 (column_ok23 (p.group + 1) countW wholeT) (h := fun w234 H234 k233 => ?_)
    refine FL_buildSlice H234 (xs := [.tmp 120]) (out := [colP (p.group + 1) countW wholeT].flatMap colCells) (Elems.many rfl rfl Elems.nil) rfl rfl rfl (fun bs w236 H236 k235 => ?_)
    refine FL_appendD H236 (news := [colP (p.group + 1) countW wholeT]) At0 (by unfold maxLen; simp; omega) (by simp; omega) (cells_one (fun _ => rfl) _) (h := ?_)
    intro v2 w238 H238
    refine Am ?_
    refine Nx (Mv ?_)
    refine Am ?_
    refine Am ?_
    refine Qn (FW_ret (Qfn_ret (hR := ?_)))
    exact ⟨v2, by rw [← hst]; rfl, trivial, by rw [← hst]; exact H238.first.turn⟩
  rw [if_neg (by omega)] at hst
  refine Sk (Sr (Mv ?_))
  refine Am ?_
  refine Am ?_
  refine Qn (FW_ret (Qfn_ret (hR := ?_)))
  exact ⟨v0, by rw [← hst]; rfl, trivial, by rw [← hst]; exact H66.first.turn⟩
end
section
variable {w : World}
end
end Go.Proofs.YtolaedhdjcnijaaGreatDoor
namespace Go.Mw
open Go.RowKit
section
variable {P : Program} {r : Option Nat} {n : Nat} {ops : Array Oper} {Q : Post} {rest : List Oper} {σ : St} {w w₀ : World} {S : Nat → Prop} {rs : List HP} {put : HP → List HP} {ty : TypeId} {pos : String} {after : Array Edge} {p q : HP}
end
end Go.Mw
namespace Go.Proofs.YtolaedhdjcnijaaGreatDoor
open Go Go.Mw Go.Lib
set_option maxRecDepth 4000
def SufV (v v' : Value) : Prop := ∀ (w : World) ns, RowIn w v intCells 1 ns → ∃ ns', RowIn w v' intCells 1 ns'
theorem SufV.refl (v : Value) : SufV v v := fun _ ns h => ⟨ns, h⟩
theorem SufV.trans {a b c : Value} (h : SufV a b) (k : SufV b c) : SufV a c := fun w ns h1 => let ⟨ns', h2⟩ := h w ns h1; k w ns' h2
section
variable {w : World} {F : Nat → Prop} {b : Nat} {v0 : Value}
end
theorem oneD {α : Type} {enc : α → List Value} {k bs e : Nat} [hk : EncK enc k] {x : α} {w₀ w : World} {S : Nat → Prop} {rs : List HP} (H : Mw.Sep w₀ S (blk bs ([x].flatMap enc) e :: rs) w) : Mw.Sep w₀ S (rowD e k enc (.slice (some ⟨bs, 0, none⟩) 1 1) [x] :: rs) w :=
 Sep.asRow (n := 1) H At0 (flat_len hk.len [x]) (by decide)
section
variable {w : World} {F : Nat → Prop} {b : Nat} {v0 : Value}
end
theorem unlines_joins (sep : UInt8) : ∀ l : List (List UInt8), l ≠ [] → joinW sep l ++ [sep] = l.flatMap (· ++ [sep])
 | [], h => absurd rfl h
 | [w], _ => by simp [joinW]
 | w :: x :: l, _ => by
  have ih := unlines_joins sep (x :: l) (by simp)
  show (w ++ sep :: joinW sep (x :: l)) ++ [sep] = _
  rw [List.flatMap_cons, ← ih]
  simp
theorem text_len {l : List StepM} (h : (textS l).2 = 0) (hf : StepsFit l) : (textS l).1.length ≤ 400000 := by
 obtain ⟨h1, h2, h3⟩ := text_may h
 rw [h3]
 have := len_join 32 (k := 6146) (ws := l.map wordS) fun w hw => by
  obtain ⟨x, hxm, rfl⟩ := List.mem_map.1 hw
  exact word_len (h2 x hxm) (hf x hxm)
 rw [List.length_map] at this
 show (joinW 32 (l.map wordS)).length ≤ _
 omega
theorem bad_iff {o : OutM} : badO o = true ↔ ((textS o.steps).2 ≠ 0 ∨ (textS o.steps).1 = []) := by unfold badO; rw [decide_eq_true_iff]
section
variable {w : World}
theorem itoa_ok (n : Int) (hn : fits n) (hT : TabsX w) : Rets Tryz.prog 38 [I n] w fun v w' => v = str (Lib.itoa n) ∧ Kept noB w w' :=
 Calls.mono (Tryz.strconv_Itoa n hn.1 hn.2 w hT.pow) fun e w' he => by
  obtain ⟨rfl, k, os, rfl⟩ := he
  exact ⟨rfl, kept_grow w k os⟩
theorem joinS_ok (sep : UInt8) {l : List (List UInt8)} {v : Value} (hr : RowIn w v textCells 1 l) (hl : l.length ≤ 1000000) (hlen : (joinW sep l).length ≤ 140737488355328) : Rets Tryz.prog 39 [v, str [sep]] w fun v' w' => v' = str (joinW sep l) ∧ Kept noB w w' := by
 obtain ⟨A, c, rfl, ⟨hc, hc'⟩, hR⟩ := hr
 by_cases h0 : l = []
 ·subst h0
  exact Calls.mono (Tryz.strings_Join_none A c ⟨#[sep]⟩ w) fun e w' he => by
   obtain ⟨rfl, rfl⟩ := he
   exact ⟨rfl, Kept.refl _ _⟩
 have hpos : 0 < l.length := List.length_pos_iff.2 h0
 obtain ⟨ad, rfl⟩ := hR.addr hpos
 obtain ⟨x0, hx0⟩ := get_some hpos
 obtain ⟨ad', e0, hc0⟩ := hR.cell (f := 0) hx0 rfl
 injection e0 with e0; subst e0
 have hsp := World.cell?_spot hc0
 obtain ⟨bk, o, sp⟩ := ad
 have hsp' : sp = none := hsp
 subst hsp'
 have hbk : bk < w.heap.size := by
  refine Classical.byContradiction fun hn => ?_
  unfold World.cell? at hc0
  rw [Array.getElem?_eq_none (by show w.heap.size ≤ bk; omega)] at hc0
  cases hc0
 have hml : (l.map fun s : List UInt8 => (⟨s.toArray⟩ : ByteArray)).map (·.data.toList) = l := by
  rw [List.map_map]
  exact (List.map_congr_left fun s _ => rfl).trans (List.map_id l)
 have := rets_below (Tryz.strings_Join bk o c (l.map fun s => ⟨s.toArray⟩) ⟨#[sep]⟩ w (fun j x hj => by
  rw [List.getElem?_map] at hj
  obtain ⟨s, hs, rfl⟩ := Option.map_eq_some_iff.1 hj
  obtain ⟨ad', e1, hcs⟩ := hR.cell (f := 0) hs rfl
  injection e1 with e1; subst e1
  rw [Nat.mul_one, Nat.add_zero, Addr.add_lit] at hcs
  exact hcs) hbk (by rw [List.length_map]; omega) (by rw [List.length_map]; exact hc) (by rw [hml]; show (Lib.join l [sep]).length ≤ _; rw [join_eq]; exact hlen))
 rw [hml, List.length_map] at this
 have e : Lib.join l [sep] = joinW sep l := join_eq sep l
 rw [← e]
 exact this
theorem textPE_ok {p : PlanM} {v : Value} (hp : PlanIn w v p) (hfw : StepsFit p.wh) (hfc : ∀ o ∈ p.cols, StepsFit o.steps) (hn : p.cols.length ≤ 1000000) (hT : TabsX w) :
    Rets Tryz.prog 13 [v] w fun v w' => v = .tuple #[str (textP p).1, I (textP p).2] ∧ Kept noB w w' := by
  have hp0 := hp
  obtain ⟨vw, vc, rfl, hw, r, hr, hraw⟩ := hp
  obtain ⟨A, m, rfl, ⟨hm, hm'⟩, hA⟩ := hr
  obtain ⟨C, n, rfl, ⟨hwn, hwn'⟩, hC⟩ := id hw
  have hrl := hraw.len
  have H := Sep.start0 w
  obtain ⟨res, hres⟩ : ∃ res, res = textP p := ⟨_, rfl⟩
  rw [← hres]
  unfold textP at hres
  have hno : mayP p ≠ true → res = ([], 2) := fun h => by rw [hres, if_pos (by simpa using h)]
  refine rets1 Tryz.func13 rfl rfl rfl rfl ?_
  refine Sr (FL_box H (cs := [.slice C p.wh.length n, .slice A r.length m, I p.group]) rfl (h := fun b1 w2 H2 k1 => ?_))
  refine Am ?_
  refine Am ?_
  refine Qn (FW_seq (Sr (FL_loadAll H2 (h := ?_))))
  refine FL_callQ H2 (named_ok (hp0.keep H2.kept) hn) (h := fun w7 H7 k6 => ?_)
  refine Vv (Gives.not rfl) (Qn ?_)
  refine Cd rfl (fun hc9 => ?_) (fun hc9 => ?_)
  · have hfin : res = ([], 2) := hno fun h => by have h1 := (may_parts.1 h).1; rw [h1] at hc9; cases hc9
    refine Sr (Am ?_)
    refine Am ?_
    refine Qn (Rs (Qfn_ret (hR := ?_)))
    exact ⟨by rw [hfin]; rfl, H7.kept⟩
  have hnm : namedP p = true := by simpa using hc9
  obtain ⟨⟨hn1, hn16, hg1, hg2⟩, hnames⟩ := named_cols hnm
  refine Sk (Sr (Vf ?_))
  refine Ld H7 ?_
  refine FL_callQ H7 (textE_ok (hw.keep H7.kept) hfw (hT.keep H7.kept)) (h := fun w18 H18 k17 => ?_)
  refine Mv ?_
  refine Vx ?_
  refine Vx ?_
  refine Am ?_
  refine Am ?_
  refine Qn (FW_seq (Sr (Mv ?_)))
  refine Vn ?_
  refine Qn (Cp rfl (fun hc26 => ?_) (fun hc26 => ?_))
  · have hfin : res = ([], 2) := hno fun h => hc26 (may_parts.1 h).2.1
    refine Sr (Am ?_)
    refine Am ?_
    refine Qn (Rs (Qfn_ret (hR := ?_)))
    exact ⟨by rw [hfin]; rfl, H18.kept⟩
  have htw : (textS p.wh).2 = 0 := by omega
  have hwl := text_len htw hfw
  refine Sk (FW_cut (fun _ : Unit => [(1, selfP b1), (4, str (if p.wh = [] then noneW else (textS p.wh).1))]) (fun _ w' => Sep w noB [blk b1 [.slice C p.wh.length n, .slice A r.length m, I p.group] 25] w') ?_ ?_)
  · refine Sr (Vf ?_)
    refine Ld H18 ?_
    refine Vs ?_
    refine Ve ?_
    refine Qn (Cp rfl (fun hc37 => ?_) (fun hc37 => ?_))
    · have he : p.wh = [] := List.eq_nil_of_length_eq_zero (by omega)
      refine FW_region (Am ?_)
      refine FL_nil ?_
      exact Qcut_normal () ⟨rfl, by rw [if_pos he]; rfl, trivial⟩ H18
    have he : ¬ p.wh = [] := fun e => hc37 (by rw [e]; rfl)
    refine FW_skip ?_
    exact Qcut_normal () ⟨rfl, by rw [if_neg he]; rfl, trivial⟩ H18
  intro _ τ w44 H44
  have h4n : noneW.length = 4 := rfl
  have hq4 : (if p.wh = [] then noneW else (textS p.wh).1).length ≤ 400000 := by split <;> omega
  simp only [upds, like, upd_ds, und_ds]
  refine Sr (Mv ?_)
  refine Vv (Gives.catT rfl rfl (by first | omega | (simp; done) | (simp; omega))) ?_
  refine FL_buildSlice H44 (xs := [.tmp 28]) (out := [lineW p.wh].flatMap textCells) (Elems.one rfl rfl Elems.nil) rfl rfl rfl (fun bs w48 H48 k47 => ?_)
  have H48 := oneD H48
  refine Am ?_
  refine Qn (FW_seq (Sr (Vf ?_)))
  refine Ld H48 ?_
  refine Vs ?_
  refine Mv ?_
  refine Qn (FW_block ?_)
  have H55 : Mw.Sep w noB [rowD 9 1 textCells (.slice (some ⟨bs, 0, none⟩) 1 1) (lineW p.wh :: (p.cols.take 0).map lineO), blk b1 [.slice C p.wh.length n, .slice A r.length m, I p.group] 25] w48 := H48
  refine FW_loop' (fun x : Nat × Value => [(1, selfP b1), (6, x.2), (31, .slice A r.length m), (32, I r.length), (33, I x.1)]) (fun x w' => (x.1 ≤ r.length ∧ ∀ (j : Nat) o, j < x.1 → p.cols[j]? = some o → badO o = false) ∧ Sep w noB [rowD 9 1 textCells x.2 (lineW p.wh :: (p.cols.take x.1).map lineO), blk b1 [.slice C p.wh.length n, .slice A r.length m, I p.group] 25] w') (fun x _ => r.length - x.1) (0, _) ⟨rfl, rfl, rfl, rfl, rfl, trivial⟩ ⟨⟨Nat.zero_le _, fun j o hj => absurd hj (Nat.not_lt_zero j)⟩, H55⟩ (fun x τ w55 hI => ?_)
  obtain ⟨i, v0⟩ := x
  obtain ⟨⟨hi, hgood⟩, H55⟩ := hI
  dsimp only at hi hgood H55
  have hml : (lineW p.wh :: (p.cols.take i).map lineO).length = i + 1 := by rw [List.length_cons, List.length_map, List.length_take]; omega
  try simp only [upds, like, upd_ds]
  refine Sr (Vl ?_)
  refine Qn (FW_seq (Cp rfl (fun hc57 => ?_) (fun hc57 => ?_)))
  · have hlt : i < p.cols.length := by omega
    obtain ⟨vx, hx, hsx⟩ := hraw.at hlt
    obtain ⟨Ax, cx, rfl, _⟩ := id hsx
    have hpc : p.cols[i]? = some p.cols[i] := List.getElem?_eq_getElem hlt
    obtain ⟨o, ho⟩ : ∃ o, o = p.cols[i] := ⟨_, rfl⟩
    rw [← ho] at hx hsx hpc
    have hmo := List.mem_of_getElem? hpc
    have htk : lineW p.wh :: (p.cols.take (i + 1)).map lineO = (lineW p.wh :: (p.cols.take i).map lineO) ++ [lineO o] := by rw [List.take_add_one, hpc, List.map_append]; rfl
    refine Sk (FW_seq (FW_block (Sr (Vv (Gives.idxR rfl rfl (by assumption) (by omega)) (Vv (Gives.loadE0 rfl H55 (by assumption) (by assumption)) ?_)))))
    refine FL_alloc H55 (h := fun b8 w62 H62 k61 => ?_)
    refine FL_storeAll H62 (h := fun w64 H64 => ?_)
    refine Nx (Vf ?_)
    refine Ld H64 ?_
    refine FL_callQ H64 (textE_ok (hsx.keep H64.kept) (hfc o hmo) (hT.keep H64.kept)) (h := fun w68 H68 k67 => ?_)
    refine Mv ?_
    refine Vx ?_
    refine Vx ?_
    refine Am ?_
    refine Am ?_
    refine Qn (FW_seq (Sr (Mv ?_)))
    refine Vn ?_
    refine Mv ?_
    refine FL_splitP (t := 45) rfl (fun hs77 => ?_) (fun hs77 => ?_)
    · have hbad : badO o = true := bad_iff.2 (.inl hs77)
      refine Of (Of (Pt ?_))
      refine Qn (FW_cond_true rfl ?_)
      refine Sr (Am ?_)
      refine Am ?_
      refine Qn (Rs (Qblk_ret (Qseq_ret (Qround_ret (Qblk_ret (Qseq_ret (Qfn_ret (hR := ?_))))))))
      have hfin : res = ([], 2) := hno fun h => by have h1 := (may_parts.1 h).2.2 o hmo; rw [h1] at hbad; cases hbad
      exact ⟨by rw [hfin]; rfl, H68.kept⟩
    refine On (Mv ?_)
    refine On (Vv (Gives.eqlT rfl rfl) (Pf ?_))
    refine Qn (Cp rfl (fun hc86 => ?_) (fun hc86 => ?_))
    · have hbad : badO o = true := bad_iff.2 (.inr hc86)
      refine Sr (Am ?_)
      refine Am ?_
      refine Qn (Rs (Qblk_ret (Qseq_ret (Qround_ret (Qblk_ret (Qseq_ret (Qfn_ret (hR := ?_))))))))
      have hfin : res = ([], 2) := hno fun h => by have h1 := (may_parts.1 h).2.2 o hmo; rw [h1] at hbad; cases hbad
      exact ⟨by rw [hfin]; rfl, H68.kept⟩
    have hok : badO o = false := by
      rw [← Bool.not_eq_true]
      intro h
      rcases bad_iff.1 h with h | h
      · omega
      exact hc86 h
    have hts : (textS o.steps).2 = 0 := by omega
    have htl2 := text_len hts (hfc o hmo)
    have hnl : o.name.length ≤ 32 := by
      have h5 := hnames o hmo
      unfold isNameS at h5
      simp only [Bool.and_eq_true, decide_eq_true_eq] at h5
      omega
    refine Sk (FW_region (Mv ?_))
    refine Vf ?_
    refine Ld H68 ?_
    refine Vv (Gives.catT rfl rfl (by first | omega | (simp; done) | (simp; omega))) ?_
    refine Vv (Gives.catT rfl rfl (by first | omega | (simp; done) | (simp; omega))) ?_
    refine Mv ?_
    refine Vv (Gives.catT rfl rfl (by first | omega | (simp; done) | (simp; omega))) ?_
    refine FL_buildSlice H68 (xs := [.tmp 55]) (out := [lineO o].flatMap textCells) (Elems.one rfl rfl Elems.nil) rfl rfl rfl (fun bs w100 H100 k99 => ?_)
    refine FL_appendD H100 (news := [lineO o]) At1 (by rw [hml]; unfold maxLen; simp; omega) (by rw [hml]; simp; omega) (cells_one (fun _ => rfl) _) (h := ?_)
    intro v2 w102 H102
    rw [← htk] at H102
    refine Am ?_
    refine FL_nil (Qblk_normal (Qseq_normal (FW_region (Vv (Gives.addI rfl rfl rfl (by omega)) ?_))))
    refine Mv ?_
    refine FL_nil ?_
    exact Qround_normal (i + 1, v2) ⟨rfl, rfl, rfl, rfl, rfl, trivial⟩ ⟨⟨by dsimp only; omega, fun j y hj hy => by
    by_cases e : j = i
    · subst e; rw [hpc] at hy; injection hy with hy; rw [← hy]; exact hok
    exact hgood j y (by dsimp only at hj; omega) hy⟩, H102.drop0⟩ (by dsimp only; omega)
  have hil : i = r.length := by omega
  rw [hil, List.take_of_length_le (by omega)] at H55 hml
  have hall : ∀ o ∈ p.cols, badO o = false := fun o ho => by
    obtain ⟨j, hj⟩ := List.getElem?_of_mem ho
    exact hgood j o (by have := get_lt hj; omega) hj
  have hmay : mayP p = true := may_parts.2 ⟨hnm, htw, hall⟩
  rw [if_neg (by rw [hmay]; decide)] at hres
  refine FW_exit (Qseq_exit (Qround_exit (Qblk_exit (Qseq_normal (Sr (Am ?_))))))
  refine Qn (FW_cut (fun _ : Unit => [(6, v0), (11, str (if p.group < 0 then noneW else itoa p.group))]) (fun _ w' => Sep w noB [rowD 9 1 textCells v0 (lineW p.wh :: p.cols.map lineO), blk b1 [.slice C p.wh.length n, .slice A r.length m, I p.group] 25] w') ?_ ?_)
  · refine Sr (Vf ?_)
    refine Ld H55 ?_
    refine Vv (Gives.geq rfl rfl) (Qn ?_)
    refine Cp rfl (fun hc113 => ?_) (fun hc113 => ?_)
    · have hg : ¬ p.group < 0 := by omega
      refine FW_region (Vf ?_)
      refine Ld H55 ?_
      refine FL_callQ H55 (itoa_ok p.group ⟨by omega, by omega⟩ (hT.keep H55.kept)) (h := fun w118 H118 k117 => ?_)
      refine Am ?_
      refine FL_nil ?_
      exact Qcut_normal () ⟨rfl, by rw [if_neg hg]; rfl, trivial⟩ H118
    have hg : p.group < 0 := by omega
    refine FW_skip ?_
    exact Qcut_normal () ⟨rfl, by rw [if_pos hg]; rfl, trivial⟩ H55
  intro _ τ w124 H124
  have h6 := itoa_length_le p.group (by omega) (by omega)
  have hq6 : (if p.group < 0 then noneW else itoa p.group).length ≤ 30 := by split <;> omega
  simp only [upds, like, upd_ds]
  refine Sr (Mv ?_)
  refine Mv ?_
  refine Vv (Gives.catT rfl rfl (by first | omega | (simp; done) | (simp; omega))) ?_
  refine FL_buildSlice H124 (xs := [.tmp 67]) (out := [lineG p.group].flatMap textCells) (Elems.one rfl rfl Elems.nil) rfl rfl rfl (fun bs2 w129 H129 k128 => ?_)
  refine FL_appendD H129 (news := [lineG p.group]) At0 (by rw [hml]; unfold maxLen; simp; omega) (by rw [hml]; simp; omega) (cells_one (fun _ => rfl) _) (h := ?_)
  intro v2 w131 H131
  have hlp : (lineW p.wh :: p.cols.map lineO) ++ [lineG p.group] = linesP p := rfl
  rw [hlp] at H131
  have hll : (linesP p).length ≤ 1002 := by unfold linesP; rw [List.length_cons, List.length_append, List.length_map, List.length_singleton]; omega
  have hlj : (joinW 10 (linesP p)).length ≤ (400100 + 1) * (linesP p).length := len_join 10 (k := 400100) fun x hx => by
    unfold linesP at hx
    rcases List.mem_cons.1 hx with rfl | hx
    · unfold lineW whereW
      rw [List.length_append]
      have h4 : noneW.length = 4 := rfl
      split <;> simp only [List.length_cons, List.length_nil] <;> omega
    rcases List.mem_append.1 hx with hx | hx
    · obtain ⟨o, ho, rfl⟩ := List.mem_map.1 hx
      have h1 := hall o ho
      have h2 : (textS o.steps).2 = 0 := Classical.byContradiction fun h => by rw [bad_iff.2 (.inl h)] at h1; cases h1
      have h3 := text_len h2 (hfc o ho)
      have h5 := hnames o ho
      unfold isNameS at h5
      simp only [Bool.and_eq_true, decide_eq_true_eq] at h5
      unfold lineO outW
      simp only [List.length_append, List.length_cons, List.length_nil]
      omega
    rw [List.mem_singleton] at hx
    subst hx
    unfold lineG groupW
    rw [List.length_append]
    have h4 : noneW.length = 4 := rfl
    have h6 := itoa_length_le p.group (by omega) (by omega)
    split <;> simp only [List.length_cons, List.length_nil] <;> omega
  refine FL_callQ H131 (joinS_ok 10 (Sep_in H131 At0) (by omega) (by omega)) (h := fun w133 H133 k132 => ?_)
  refine Vv (Gives.catT rfl rfl (by first | omega | (simp; done) | (simp; omega))) ?_
  refine Am ?_
  refine Am ?_
  refine Qn (FW_ret (Qfn_ret (hR := ?_)))
  exact ⟨by rw [hres]; show Value.tuple #[str (joinW 10 (linesP p) ++ [10]), I 0] = _; rw [unlines_joins 10 _ (by unfold linesP; simp)]; rfl, H133.kept⟩
end
end Go.Proofs.YtolaedhdjcnijaaGreatDoor
namespace Go.Proofs.YtolaedhdjcnijaaGreatDoor
open Go Go.Lib Go.Mw
set_option maxRecDepth 4000
/-! The plans. -/
end Go.Proofs.YtolaedhdjcnijaaGreatDoor
namespace Go.Proofs.YtolaedhdjcnijaaGreatDoor
open Go Go.Lib Go.Mw
set_option maxRecDepth 8000
/-! The chapter's examples. -/
def smallP : List ColM := [⟨1, [], ⟨2, false⟩, cell0⟩, ⟨2, [], ⟨4, true⟩, cell0⟩, ⟨3, [], ⟨1, false⟩, cell0⟩]
def exTx : List (List UInt8) := [[119, 104, 101, 114, 101, 32, 110, 111, 110, 101, 10, 111, 117, 116, 32, 97, 32, 35, 49, 10, 111, 117, 116, 32, 98, 32, 35, 50, 32, 105, 115, 110, 117, 108, 108, 10, 103, 114, 111, 117, 112, 32, 110, 111, 110, 101, 10], [119, 104, 101, 114, 101, 32, 35, 51, 10, 111, 117, 116, 32, 115, 32, 35, 50, 10, 111, 117, 116, 32, 116, 111, 116, 97, 108, 32, 35, 49, 32, 50, 32, 42, 10, 103, 114, 111, 117, 112, 32, 49, 10], [119, 104, 101, 114, 101, 32, 35, 49, 10, 111, 117, 116, 32, 97, 32, 35, 49, 10, 103, 114, 111, 117, 112, 32, 110, 111, 110, 101, 10], [119, 104, 101, 114, 101, 32, 110, 111, 110, 101, 10, 111, 117, 116, 32, 97, 32, 35, 50, 10, 103, 114, 111, 117, 112, 32, 48, 10], [119, 104, 101, 114, 101, 32, 110, 111, 110, 101, 10, 111, 117, 116, 32, 97, 32, 35, 52, 10, 103, 114, 111, 117, 112, 32, 110, 111, 110, 101, 10]]
def exPl : List PlanM := [⟨[], [⟨[97], [⟨1, 1, []⟩]⟩, ⟨[98], [⟨1, 2, []⟩, ⟨16, 0, []⟩]⟩], -1⟩, ⟨[⟨1, 3, []⟩], [⟨[115], [⟨1, 2, []⟩]⟩, ⟨[116, 111, 116, 97, 108], [⟨1, 1, []⟩, ⟨2, 2, []⟩, ⟨9, 0, []⟩]⟩], 1⟩,
 ⟨[⟨1, 1, []⟩], [⟨[97], [⟨1, 1, []⟩]⟩], -1⟩, ⟨[], [⟨[97], [⟨1, 2, []⟩]⟩], 0⟩, ⟨[], [⟨[97], [⟨1, 4, []⟩]⟩], -1⟩]
def exCh : List (List ColM × Int) := [([⟨1, [97], ⟨3, false⟩, cell0⟩, ⟨2, [98], ⟨1, false⟩, cell0⟩], 0), ([⟨1, [115], ⟨4, true⟩, ⟨true, 0, []⟩⟩, ⟨2, countW, ⟨3, false⟩, cell0⟩, ⟨3, [116, 111, 116, 97, 108], ⟨3, false⟩, cell0⟩], 0), ([], 230), ([], 230), ([], 220)]
theorem ex_may : exPl.all mayP = true ∧ exPl.map (fun p => unlines (linesP p)) = exTx := by decide +kernel
theorem ex_check : exPl.map (checkP smallP) = exCh ∧ checkP smallP ⟨[], [⟨countW, [⟨1, 1, []⟩]⟩], 0⟩ = ([], 230) := by decide +kernel
def noTx : List (List UInt8 × Int × Int) := [([119, 104, 101, 114, 101, 32, 110, 111, 110, 101, 10, 111, 117, 116, 32, 97, 32, 35, 49, 10, 111, 117, 116, 32, 97, 32, 35, 49, 10, 103, 114, 111, 117, 112, 32, 110, 111, 110, 101, 10], 0, 2), ([119, 104, 101, 114, 101, 32, 110, 111, 110, 101, 10, 103, 114, 111, 117, 112, 32, 110, 111, 110, 101, 10], 1, 4), ([119, 104, 101, 114, 101, 32, 110, 111, 110, 101, 10, 111, 117, 116, 32, 97, 32, 35, 49, 10], 2, 4), ([119, 104, 101, 114, 101, 32, 110, 111, 110, 101, 10, 111, 117, 116, 32, 97, 32, 35, 49, 10, 103, 114, 111, 117, 112, 32, 50, 10], 0, 2), ([119, 104, 101, 114, 101, 10], 0, 4), ([], 0, 4), ([119, 104, 101, 114, 101, 32, 110, 111, 110, 101, 10, 111, 117, 116, 32, 97, 32, 35, 49, 10, 103, 114, 111, 117, 112, 32, 48, 49, 10], 2, 4)]
theorem ex_none : ∀ x ∈ noTx, parseP x.1 = (plan0, x.2.1, x.2.2) := by
 decide +kernel
end Go.Proofs.YtolaedhdjcnijaaGreatDoor
namespace Go.Proofs.YtolaedhdjcnijaaGreatDoor
open Go Go.Mw Go.Lib
set_option maxRecDepth 4000
section
variable {w : World}
end
end Go.Proofs.YtolaedhdjcnijaaGreatDoor
