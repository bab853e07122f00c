/-
 Plans copied, and cut short, walked.
-/
import Derived.Test.YtolaedhdjcnijaaGreatDoorKt27
import Derived.Test.YtolaedhdjcnijaaGreatDoorKt21
import Derived.Test.YtolaedhdjcnijaaGreatDoorKt25
set_option linter.unusedVariables false
set_option linter.unusedSimpArgs false
namespace Go.Proofs.YtolaedhdjcnijaaGreatDoor
open Go Go.Mw Go.Lib
set_option maxRecDepth 4000
def stepsQ (l : List StepM) : List StepM := (l.take 66).map cutStep
def cutO (o : OutM) : OutM := ⟨o.name.take 40, stepsQ o.steps⟩
def cutP (p : PlanM) : PlanM := ⟨stepsQ p.wh, (p.cols.take 18).map cutO, p.group⟩
theorem stepsQ_len (l : List StepM) : (stepsQ l).length ≤ 66 := by unfold stepsQ; rw [List.length_map, List.length_take]; omega
theorem stepsQ_fit {l : List StepM} (h : StepsFit l) : StepsFit (stepsQ l) := fun x hx => by
 obtain ⟨y, hy, rfl⟩ := List.mem_map.1 hx
 exact h y (List.mem_of_mem_take hy)
theorem cutP_fit {p : PlanM} (h : AllFit p) : AllFit (cutP p) ∧ (cutP p).cols.length ≤ 18 ∧ (cutP p).wh.length ≤ 66 ∧ ∀ o ∈ (cutP p).cols, o.steps.length ≤ 66 :=
 ⟨⟨stepsQ_fit h.1, fun o ho => by
  obtain ⟨y, hy, rfl⟩ := List.mem_map.1 ho
  exact stepsQ_fit (h.2 y (List.mem_of_mem_take hy))⟩, by show ((p.cols.take 18).map cutO).length ≤ 18; rw [List.length_map, List.length_take]; omega, stepsQ_len _, fun o ho => by
  obtain ⟨y, hy, rfl⟩ := List.mem_map.1 ho
  exact stepsQ_len _⟩
section
variable {w : World}
theorem steps_ok23 {l : List StepM} {v : Value} (hl : RowIn w v stepCells 3 l) : Rets Tryz.prog 35 [v] w fun v' w' => ∃ x, v' = x ∧ True ∧ Turn noB (rowD 60 3 stepCells x (stepsQ l)) w w' := by
 obtain ⟨A, m, rfl, ⟨hm, hm'⟩, hA⟩ := hl
 have H := Sep.start0 w
 refine rets1 Tryz.func35 rfl rfl rfl rfl ?_
 refine Sr (Am ?_)
 refine Nx (Am ?_)
 refine Qn (FW_seq (Sr (Am ?_)))
 refine Qn (FW_block ?_)
 have H5 := Sep.nilD H 60 3 stepCells
 refine FW_loop' (fun x : Nat × Value => [(0, .slice A l.length m), (3, x.2), (4, I x.1)]) (fun x w' => (x.1 ≤ l.length ∧ x.1 ≤ 66) ∧ Sep w noB [rowD 60 3 stepCells x.2 ((l.take x.1).map cutStep)] w') (fun x _ => l.length - x.1) (0, .slice none 0 0) ⟨rfl, rfl, rfl, trivial⟩ ⟨⟨Nat.zero_le _, Nat.zero_le _⟩, H5⟩ (fun x τ w5 hI => ?_)
 obtain ⟨i, v1⟩ := x
 obtain ⟨⟨hi, hi70⟩, H5⟩ := hI
 dsimp only at hi hi70 H5
 have hml : ((l.take i).map cutStep).length = i := by rw [List.length_map, List.length_take]; omega
 try simp only [upds, like, upd_ds, und_ds]
 refine FW_seq (Sr (Mv ?_))
 refine Mv ?_
 refine Vs ?_
 refine Vl ?_
 refine Mv ?_
 refine FL_splitP (t := 10) rfl (fun hs11 => ?_) (fun hs11 => ?_)
 ·have hilt := hs11
  refine On (Mv ?_)
  refine On (Vl ?_)
  refine Pt ?_
  refine Qn (Cp rfl (fun hc16 => ?_) (fun hc16 => ?_))
  ·have hlt : i < l.length := by omega
   obtain ⟨x, hx⟩ := get_some hlt
   have htk : (l.take (i + 1)).map cutStep = (l.take i).map cutStep ++ [cutStep x] := by rw [List.take_add_one, hx, List.map_append]; rfl
   refine Sk (FW_seq (FW_block (Sr (Mv ?_))))
   refine Mv ?_
   refine Vv (Gives.idxR rfl rfl (by assumption) (by omega)) (Vv (Gives.loadE0 rfl H5 (by assumption) (by assumption)) ?_)
   refine FL_alloc H5 (h := fun b5 w23 H23 k22 => ?_)
   refine FL_storeAll H23 (h := fun w25 H25 => ?_)
   refine Nx (Vf ?_)
   refine Ld H25 ?_
   refine Vf ?_
   refine Ld H25 ?_
   refine Vt ?_
   refine Vv (Gives.minE rfl rfl (min_take x.s 1100)) (Vv (Gives.sliceToT (l := x.s) (i := (x.s.take 1100).length) rfl rfl (by rw [List.length_take]; omega)) ?_)
   rw [take_take']
   refine Vf ?_
   refine FL_store H25 (h := fun w35 H35 => ?_)
   refine Qn (FW_region (Mv ?_))
   refine FL_loadAll H35 (cs := stepCells (cutStep x)) (h := ?_)
   refine FL_buildSlice H35 (xs := [.tmp 29]) (out := [cutStep x].flatMap stepCells) (Elems.many rfl rfl Elems.nil) rfl rfl rfl (fun bs w39 H39 k38 => ?_)
   refine FL_appendD H39 (news := [cutStep x]) At1 (by rw [hml]; unfold maxLen; simp; omega) (by rw [hml]; show (i + 1) * 32 ≤ _; omega) (cells_one (fun _ => rfl) _) (h := ?_)
   intro v2 w41 H41
   rw [← htk] at H41
   refine Am ?_
   refine FL_nil (Qblk_normal (Qseq_normal (FW_region (Mv ?_))))
   refine Vv (Gives.addI (c := ((i + 1 : Nat) : Int)) rfl rfl (by omega) (by omega)) (Am ?_)
   refine FL_nil ?_
   exact Qround_normal (i + 1, v2) ⟨rfl, rfl, rfl, trivial⟩ ⟨⟨by dsimp only; omega, by dsimp only; omega⟩, (H41.front1).firsts (l := [_])⟩ (by dsimp only; omega)
  have hend : (l.take i).map cutStep = stepsQ l := by unfold stepsQ; rw [show i = 66 by have h := hc16; omega]
  refine FW_exit (Qseq_exit (Qround_exit (Qblk_exit (Qseq_normal (Sr (Mv ?_))))))
  refine Am ?_
  refine Qn (FW_ret (Qfn_ret (hR := ?_)))
  exact ⟨_, rfl, trivial, by rw [hend] at H5; exact H5.turn⟩
 have hend : (l.take i).map cutStep = stepsQ l := by unfold stepsQ; rw [List.take_of_length_le (l := l) (i := i) (by have h := hs11; omega), List.take_of_length_le (l := l) (i := 66) (by have h := hs11; omega)]
 refine Of (Of (Pf ?_))
 refine Qn (FW_cond_false rfl ?_)
 refine FW_exit (Qseq_exit (Qround_exit (Qblk_exit (Qseq_normal (Sr (Mv ?_))))))
 refine Am ?_
 refine Qn (FW_ret (Qfn_ret (hR := ?_)))
 exact ⟨_, rfl, trivial, by rw [hend] at H5; exact H5.turn⟩
theorem few_ok23 {p : PlanM} {v : Value} (hp : PlanIn w v p) : Rets Tryz.prog 11 [v] w fun v' w' => ∃ x, v' = x ∧ True ∧ Turn noB (planH x (cutP p)) w w' := by
 obtain ⟨vw, vc, rfl, hw, r, hr, hraw⟩ := hp
 obtain ⟨A, m, rfl, ⟨hm, hm'⟩, hA⟩ := hr
 obtain ⟨W, mw, rfl, _, _⟩ := id hw
 have hrl := hraw.len
 have H := Sep.start0 w
 refine retsC1 Tryz.func11 rfl rfl rfl rfl ?_
 refine Sr (FL_box H (cs := [.slice W p.wh.length mw, .slice A r.length m, I p.group]) rfl (h := fun b1 w2 H2 k1 => ?_))
 refine FL_alloc H2 (h := fun b2 w4 H4 k3 => ?_)
 refine Qn (FW_cut (fun z : Nat × Option Addr × Nat => [(1, selfP b1), (2, selfP b2), (3, selfP z.1)]) (fun z w' => Sep w noB [seeH (.slice z.2.1 (stepsQ p.wh).length z.2.2) stepCells 3 (stepsQ p.wh), blk z.1 [.slice z.2.1 (stepsQ p.wh).length z.2.2, .slice none 0 0, I p.group] 25, blk b2 [.slice none 0 0, .slice none 0 0, I 0] 25, blk b1 [.slice W p.wh.length mw, .slice A r.length m, I p.group] 25] w') ?_ ?_)
 ·refine FW_drawS rfl H4 (h := fun hok6 w8 H8 => ?_)
  refine Gp hok6 0 rfl rfl (fun _ => (Gives.field0 rfl)) (FGload hok6 1 H8 (h := ?_))
  refine Gp hok6 2 rfl rfl (fun _ => (Gives.field0 rfl)) (FGload hok6 3 H8 (h := ?_))
  refine FG_two hok6 (e1 := 4) (e2 := 6) (by kernel_rfl) ?_ ?_
  ·refine step_callN hok6 4 [(1, false), (0, true)] H8 (steps_ok23 (hw.keep H8.kept)) (h := fun vx w14 _ H14 k13 => ?_)
   obtain ⟨X, cx, rfl, _, _⟩ := Sep.formD H14 At0
   refine ⟨Stab_load H14 (h := Stab_pure (Stab_nil)), ?_⟩
   refine Gp hok6 5 rfl rfl (fun _ => (Gives.build (out := [.slice X (stepsQ p.wh).length cx, .slice none 0 0, I p.group]) (Fills.one rfl rfl rfl (by simp) rfl (Fills.one rfl rfl rfl (by simp) rfl Fills.nil)))) (FGalloc hok6 6 [(5, true), (1, false), (0, true)] H14 (h := fun b3 w17 H17 => ⟨Stab_pure (Stab_load H17 (h := Stab_pure (Stab_nil))), ?_⟩))
   refine FGstoreAll hok6 7 [] H17 (h := fun w19 H19 => ⟨Stab_nil, ?_⟩)
   refine FG_end hok6 (by kernel_rfl) ?_
   exact Qcut_normal (b3, X, cx) ⟨rfl, rfl, rfl, trivial⟩ (by first | exact Sep_seeRow H19 At0 | exact Sep_seeRow H19.front1 At0)
  refine step_alloc hok6 6 [(3, false), (2, true), (1, false), (0, true)] H8 (h := fun b3 w22 H22 => ⟨Stab_load H22 (h := Stab_pure (Stab_load H22 (h := Stab_pure (Stab_nil)))), ?_⟩)
  refine FGcallN hok6 4 [(1, false), (0, true)] H22 (steps_ok23 (hw.keep H22.kept)) (h := fun vx w24 _ H24 k23 => ?_)
  obtain ⟨X, cx, rfl, _, _⟩ := Sep.formD H24 At0
  refine ⟨Stab_load H24 (h := Stab_pure (Stab_nil)), ?_⟩
  refine Gp hok6 5 rfl rfl (fun _ => (Gives.build (out := [.slice X (stepsQ p.wh).length cx, .slice none 0 0, I p.group]) (Fills.one rfl rfl rfl (by simp) rfl (Fills.one rfl rfl rfl (by simp) rfl Fills.nil)))) (FGstoreAll hok6 7 [] H24 (h := fun w27 H27 => ⟨Stab_nil, ?_⟩))
  refine FG_end hok6 (by kernel_rfl) ?_
  exact Qcut_normal (b3, X, cx) ⟨rfl, rfl, rfl, trivial⟩ (by first | exact Sep_seeRow H27 At0 | exact Sep_seeRow H27.front1 At0)
 rintro ⟨b3, X, cx⟩ τ w30 H30
 dsimp only at H30
 simp only [upds, like, upd_ds, und_ds]
 refine FW_seq (Sr (Am ?_))
 refine Qn (FW_block ?_)
 have H33 := Sep_rawNil (Sep.nilD H30 53 2 outCells)
 refine FW_loop' (fun x : Nat × (Option Addr × Nat) × List (List UInt8 × Value) => [(1, selfP b1), (2, selfP b2), (3, selfP b3), (4, I x.1)]) (fun x w' => (x.1 ≤ r.length ∧ x.1 ≤ 18 ∧ x.2.2.length = x.1) ∧ Sep w noB [rawsH x.2.2 ((p.cols.take x.1).map cutO), rowD 53 2 outCells (.slice x.2.1.1 x.2.2.length x.2.1.2) x.2.2, seeH (.slice X (stepsQ p.wh).length cx) stepCells 3 (stepsQ p.wh), blk b3 [.slice X (stepsQ p.wh).length cx, .slice x.2.1.1 x.2.2.length x.2.1.2, I p.group] 25, blk b2 [.slice none 0 0, .slice none 0 0, I 0] 25, blk b1 [.slice W p.wh.length mw, .slice A r.length m, I p.group] 25] w') (fun x _ => r.length - x.1) (0, (none, 0), []) ⟨rfl, rfl, rfl, rfl, trivial⟩ ⟨⟨Nat.zero_le _, Nat.zero_le _, rfl⟩, H33⟩ (fun x τ w33 hI => ?_)
 obtain ⟨i, ⟨C, cc⟩, q⟩ := x
 obtain ⟨⟨hi, hi18, hql⟩, H33⟩ := hI
 dsimp only at hi hi18 hql H33
 try simp only [upds, like, upd_ds]
 refine FW_seq (Sr (Mv ?_))
 refine Vf ?_
 refine Ld H33 ?_
 refine Vs ?_
 refine Vl ?_
 refine Mv ?_
 refine FL_splitP (t := 17) rfl (fun hs40 => ?_) (fun hs40 => ?_)
 ·have hilt := hs40
  refine On (Mv ?_)
  refine On (Vl ?_)
  refine Pt ?_
  refine Qn (Cp rfl (fun hc45 => ?_) (fun hc45 => ?_))
  ·have hlt : i < p.cols.length := by omega
   obtain ⟨vx, hx, hsx⟩ := hraw.at hlt
   have hpc : p.cols[i]? = some p.cols[i] := List.getElem?_eq_getElem hlt
   obtain ⟨o, ho⟩ : ∃ o, o = p.cols[i] := ⟨_, rfl⟩
   rw [← ho] at hx hsx hpc
   have htk : (p.cols.take (i + 1)).map cutO = (p.cols.take i).map cutO ++ [cutO o] := by rw [List.take_add_one, hpc, Option.toList_some, List.map_append]; rfl
   refine Sk (FW_seq (FW_block (Sr (Vf ?_))))
   refine Ld H33 ?_
   refine Mv ?_
   refine Vv (Gives.idxR rfl rfl (by assumption) (by omega)) (Vv (Gives.fieldR rfl (by assumption) (by omega)) ?_)
   refine Vv (Gives.loadE rfl H33 (by assumption) (by assumption) rfl) (Am ?_)
   refine Qn (FW_drawS rfl H33 (h := fun hok54 w56 H56 => ?_))
   refine Gp hok54 0 rfl rfl (fun _ => (Gives.field0 rfl)) (FGload hok54 1 H56 (h := ?_))
   refine Gm hok54 2 ?_
   refine Gm hok54 3 ?_
   refine Gp hok54 4 rfl rfl (fun _ => (Gives.lenT rfl)) (Gp hok54 5 rfl rfl (fun _ => (Gives.minE rfl rfl (min_take o.name 40))) ?_)
   refine Gp hok54 6 rfl rfl (fun _ => (Gives.sliceToT (l := o.name) (i := (o.name.take 40).length) rfl rfl (by rw [List.length_take]; omega))) ?_
   refine Gp hok54 7 rfl rfl (fun _ => (Gives.field0 rfl)) (FGload hok54 8 H56 (h := ?_))
   refine Gm hok54 9 ?_
   refine Gp hok54 10 rfl rfl (fun _ => (Gives.idxR rfl rfl (by assumption) (by omega))) (Gp hok54 11 rfl rfl (fun _ => (Gives.fieldR rfl (by assumption) (by omega))) ?_)
   refine Gl hok54 12 rfl rfl (Gives.loadE rfl H56 (by assumption) (by assumption) rfl) (FGcallN hok54 13 [(6, true), (5, true), (4, true), (3, true), (2, true), (1, false), (0, true)] H56 (steps_ok23 (hsx.keep H56.kept)) (h := fun vy w68 _ H68 k67 => ?_))
   obtain ⟨Y, cy, rfl, _, _⟩ := Sep.formD H68 At0
   refine ⟨Stab_pure (Stab_pure (Stab_pure (Stab_pure (Stab_pure (Stab_load H68 (h := Stab_pure (Stab_nil))))))), ?_⟩
   refine Gp hok54 14 rfl rfl (fun _ => (Gives.build (out := outCells (o.name.take (o.name.take 40).length, .slice Y (stepsQ o.steps).length cy)) (Fills.one rfl rfl rfl (by simp) rfl (Fills.one rfl rfl rfl (by simp) rfl Fills.nil)))) (FGbuildSlice hok54 15 [(1, false), (0, true)] H68 (xs := [.tmp 43]) (out := [(o.name.take (o.name.take 40).length, Value.slice Y (stepsQ o.steps).length cy)].flatMap outCells) (Elems.many rfl rfl Elems.nil) (h := fun bs w71 H71 => ⟨Stab_load H71 (h := Stab_pure (Stab_nil)), ?_⟩))
   rw [take_take'] at H71
   refine FGappendD hok54 16 [] H71 (news := [(o.name.take 40, Value.slice Y (stepsQ o.steps).length cy)]) At2 (by unfold maxLen; simp; omega) (by simp; omega) (outs_one rfl) (h := fun v2 w73 H73 => ?_)
   obtain ⟨C2, c2, rfl, _, _⟩ := Sep.formD H73 At2
   refine ⟨Stab_nil, ?_⟩
   refine Gp hok54 17 rfl rfl (fun _ => (Gives.field0 rfl)) (FGstore hok54 18 [] H73 (h := fun w76 H76 => ⟨Stab_nil, ?_⟩))
   refine FG_end hok54 (by kernel_rfl) ?_
   refine Qblk_normal (Qseq_normal (FW_region (Mv ?_)))
   refine Vv (Gives.addI rfl rfl rfl (by omega)) (Am ?_)
   refine FL_nil ?_
   exact Qround_normal (i + 1, (C2, c2), q ++ [(o.name.take 40, Value.slice Y (stepsQ o.steps).length cy)]) ⟨rfl, rfl, rfl, rfl, trivial⟩ ⟨⟨by dsimp only; omega, by dsimp only; omega, by dsimp only; rw [List.length_append, hql]; rfl⟩, by
   dsimp only
   rw [htk]
   exact Sep_rawPush H76⟩ (by dsimp only; omega)
  have hend : (p.cols.take i).map cutO = (cutP p).cols := by rw [show i = 18 by have h := hc45; omega]; rfl
  refine FW_exit (Qseq_exit (Qround_exit (Qblk_exit (Qseq_normal (Sr (FL_loadAll H33 (h := ?_)))))))
  refine FL_storeAll H33 (h := fun w84 H84 => ?_)
  refine Qn (FW_ret (QfnC_ret (h := ?_)))
  rw [hend] at H84
  exact ⟨_, resC1 H84, _, rfl, trivial, (Sep_plan (s := stepsQ p.wh) (g := p.group) (cols := (cutP p).cols) H84.front1.front2).first.turn⟩
 have hend : (p.cols.take i).map cutO = (cutP p).cols := by
  show _ = (p.cols.take 18).map cutO
  rw [List.take_of_length_le (l := p.cols) (i := i) (by have h := hs40; omega), List.take_of_length_le (l := p.cols) (i := 18) (by have h := hs40; omega)]
 refine Of (Of (Pf ?_))
 refine Qn (FW_cond_false rfl ?_)
 refine FW_exit (Qseq_exit (Qround_exit (Qblk_exit (Qseq_normal (Sr (FL_loadAll H33 (h := ?_)))))))
 refine FL_storeAll H33 (h := fun w90 H90 => ?_)
 refine Qn (FW_ret (QfnC_ret (h := ?_)))
 rw [hend] at H90
 exact ⟨_, resC1 H90, _, rfl, trivial, (Sep_plan (s := stepsQ p.wh) (g := p.group) (cols := (cutP p).cols) H90.front1.front2).first.turn⟩
theorem copyR_ok {p : PlanM} {v : Value} (hp : PlanIn w v p) (hn : p.cols.length ≤ 100) (hw1 : p.wh.length ≤ 1000) (hc1 : ∀ o ∈ p.cols, o.steps.length ≤ 1000) : Rets Tryz.prog 12 [v] w fun v' w' => ∃ x, v' = x ∧ True ∧ Turn noB (planH x p) w w' := by
 obtain ⟨vw, vc, rfl, hw, r, hr, hraw⟩ := hp
 obtain ⟨A, m, rfl, ⟨hm, hm'⟩, hA⟩ := hr
 obtain ⟨W, mw, rfl, _, hW⟩ := id hw
 have hrl := hraw.len
 have H := Sep.start0 w
 refine retsC1 Tryz.func12 rfl rfl rfl rfl ?_
 refine Sr (FL_box H (cs := [.slice W p.wh.length mw, .slice A r.length m, I p.group]) rfl (h := fun b1 w2 H2 k1 => ?_))
 refine FL_alloc H2 (h := fun b2 w4 H4 k3 => ?_)
 refine Nx (Vf ?_)
 refine Ld H4 ?_
 refine Vv (Gives.build (out := [.slice none 0 0, .slice none 0 0, I p.group]) (Fills.one rfl rfl rfl (by simp) rfl Fills.nil)) (FL_alloc H4 (h := fun b3 w9 H9 k8 => ?_))
 refine FL_storeAll H9 (h := fun w11 H11 => ?_)
 refine Nx ?_
 have H13 := Sep.nilD H11 60 3 stepCells
 refine Vf ?_
 refine Ld H13 ?_
 refine Vf ?_
 refine Ld H13 ?_
 refine FL_appendO H13 At0 (hW.keep H13.kept) (by unfold maxLen; simp; omega) (by simp; omega) (cells_one (fun _ => rfl) _) (h := ?_)
 intro v0 w18 H18
 rw [List.nil_append] at H18
 obtain ⟨X, cx, rfl, _, _⟩ := Sep.formD H18 At0
 refine Vf ?_
 refine FL_store H18 (h := fun w21 H21 => ?_)
 refine Qn (FW_seq (Sr (Am ?_)))
 refine Qn (FW_block ?_)
 have H24 := Sep_rawNil (Sep.nilD (Sep_seeRow H21 At0) 53 2 outCells)
 refine FW_loop' (fun x : Nat × (Option Addr × Nat) × List (List UInt8 × Value) => [(1, selfP b1), (2, selfP b2), (3, selfP b3), (4, I x.1)]) (fun x w' => (x.1 ≤ r.length ∧ x.2.2.length = x.1) ∧ Sep w noB [rawsH x.2.2 (p.cols.take x.1), rowD 53 2 outCells (.slice x.2.1.1 x.2.2.length x.2.1.2) x.2.2, seeH (.slice X p.wh.length cx) stepCells 3 p.wh, blk b3 [.slice X p.wh.length cx, .slice x.2.1.1 x.2.2.length x.2.1.2, I p.group] 25, blk b2 [.slice none 0 0, .slice none 0 0, I 0] 25, blk b1 [.slice W p.wh.length mw, .slice A r.length m, I p.group] 25] w') (fun x _ => r.length - x.1) (0, (none, 0), []) ⟨rfl, rfl, rfl, rfl, trivial⟩ ⟨⟨Nat.zero_le _, rfl⟩, H24⟩ (fun x τ w24 hI => ?_)
 obtain ⟨i, ⟨C, cc⟩, q⟩ := x
 obtain ⟨⟨hi, hql⟩, H24⟩ := hI
 dsimp only at hi hql H24
 try simp only [upds, like, upd_ds, und_ds]
 refine FW_seq (Sr (Mv ?_))
 refine Vf ?_
 refine Ld H24 ?_
 refine Vs ?_
 refine Vl ?_
 refine Qn (Cp rfl (fun hc30 => ?_) (fun hc30 => ?_))
 ·have hlt : i < p.cols.length := by omega
  obtain ⟨vx, hx, hsx⟩ := hraw.at hlt
  have hpc : p.cols[i]? = some p.cols[i] := List.getElem?_eq_getElem hlt
  obtain ⟨o, ho⟩ : ∃ o, o = p.cols[i] := ⟨_, rfl⟩
  rw [← ho] at hx hsx hpc
  obtain ⟨Ax, mx, rfl, _, hX⟩ := id hsx
  have hol := hc1 o (List.mem_of_getElem? hpc)
  have htk : p.cols.take (i + 1) = p.cols.take i ++ [o] := by rw [List.take_add_one, hpc]; rfl
  refine Sk (FW_seq (FW_block (Sr ?_)))
  have H33 := Sep.nilD H24 60 3 stepCells
  refine Am ?_
  refine Qn (FW_drawS rfl H33 (h := fun hok34 w36 H36 => ?_))
  refine Gp hok34 0 rfl rfl (fun _ => (Gives.field0 rfl)) (FGload hok34 1 H36 (h := ?_))
  refine Gp hok34 2 rfl rfl (fun _ => (Gives.field0 rfl)) (FGload hok34 3 H36 (h := ?_))
  refine Gm hok34 4 ?_
  refine Gp hok34 5 rfl rfl (fun _ => (Gives.idxR rfl rfl (by assumption) (by omega))) (Gp hok34 6 rfl rfl (fun _ => (Gives.fieldR rfl (by assumption) (by omega))) ?_)
  refine Gl hok34 7 rfl rfl (Gives.loadE rfl H36 (by assumption) (by assumption) rfl) (Gm hok34 8 ?_)
  refine Gp hok34 9 rfl rfl (fun _ => (Gives.field0 rfl)) (FGload hok34 10 H36 (h := ?_))
  refine Gm hok34 11 ?_
  refine Gp hok34 12 rfl rfl (fun _ => (Gives.idxR rfl rfl (by assumption) (by omega))) (Gp hok34 13 rfl rfl (fun _ => (Gives.fieldR rfl (by assumption) (by omega))) ?_)
  refine Gl hok34 14 rfl rfl (Gives.loadE rfl H36 (by assumption) (by assumption) rfl) (FGappendO hok34 15 [(7, false), (6, true), (5, true), (4, true), (3, false), (2, true), (1, false), (0, true)] H36 At0 (hX.keep H36.kept) (by unfold maxLen; simp; omega) (by simp; omega) (cells_one (fun _ => rfl) _) (h := fun v2 w50 H50 => ?_))
  rw [List.nil_append] at H50
  obtain ⟨Y, cy, rfl, _, _⟩ := Sep.formD H50 At0
  refine ⟨(Stab_cons rfl (by kernel_rfl) (Gives.loadE (i := i) (f := 0) (c := (o.name, .slice Ax o.steps.length mx)) rfl H50 hA hx rfl) rfl (Stab_pure (Stab_pure (Stab_pure (Stab_load H50 (h := Stab_pure (Stab_load H50 (h := Stab_pure (Stab_nil))))))))), ?_⟩
  refine Gp hok34 16 rfl rfl (fun _ => (Gives.build (out := outCells (o.name, .slice Y o.steps.length cy)) (Fills.one rfl rfl rfl (by simp) rfl (Fills.one rfl rfl rfl (by simp) rfl Fills.nil)))) (FGbuildSlice hok34 17 [(1, false), (0, true)] H50 (xs := [.tmp 38]) (out := [(o.name, Value.slice Y o.steps.length cy)].flatMap outCells) (Elems.many rfl rfl Elems.nil) (h := fun bs w53 H53 => ⟨Stab_load H53 (h := Stab_pure (Stab_nil)), ?_⟩))
  refine FGappendD hok34 18 [] H53 (news := [(o.name, Value.slice Y o.steps.length cy)]) At2 (by unfold maxLen; simp; omega) (by simp; omega) (outs_one rfl) (h := fun v3 w55 H55 => ?_)
  obtain ⟨C2, c2, rfl, _, _⟩ := Sep.formD H55 At2
  refine ⟨Stab_nil, ?_⟩
  refine Gp hok34 19 rfl rfl (fun _ => (Gives.field0 rfl)) (FGstore hok34 20 [] H55 (h := fun w58 H58 => ⟨Stab_nil, ?_⟩))
  refine FG_end hok34 (by kernel_rfl) ?_
  refine Qblk_normal (Qseq_normal (FW_region (Mv ?_)))
  refine Vv (Gives.addI rfl rfl rfl (by omega)) (Am ?_)
  refine FL_nil ?_
  exact Qround_normal (i + 1, (C2, c2), q ++ [(o.name, Value.slice Y o.steps.length cy)]) ⟨rfl, rfl, rfl, rfl, trivial⟩ ⟨⟨by dsimp only; omega, by dsimp only; rw [List.length_append, hql]; rfl⟩, by
  dsimp only
  rw [htk]
  exact Sep_rawPush H58⟩ (by dsimp only; omega)
 have hil : i = r.length := by omega
 rw [hil, List.take_of_length_le (by omega)] at H24
 refine FW_exit (Qseq_exit (Qround_exit (Qblk_exit (Qseq_normal (Sr (FL_loadAll H24 (h := ?_)))))))
 refine FL_storeAll H24 (h := fun w66 H66 => ?_)
 refine Qn (FW_ret (QfnC_ret (h := ?_)))
 exact ⟨_, resC1 H66, _, rfl, trivial, (Sep_plan (s := p.wh) (g := p.group) (cols := p.cols) H66.front1.front2).first.turn⟩
end
section
variable {w : World}
end
theorem plan_form {w : World} {v : Value} {p : PlanM} (h : PlanIn w v p) : ∃ A a B b, v = agg [.slice A p.wh.length a, .slice B p.cols.length b, I p.group] := by
 obtain ⟨vw, vc, rfl, ⟨A, a, rfl, _⟩, r, ⟨B, b, rfl, _⟩, hr⟩ := h
 exact ⟨A, a, B, b, by rw [hr.len]⟩
section
variable {w : World}
theorem replaceSl_ok (l : List UInt8) (hl : l.length ≤ 10000000) (hT : TabsX w) : Rets Tryz.prog 98 [str l, str [47], str [10]] w fun v w' => v = str (slash l) ∧ Kept noB w w' := by
 obtain ⟨m, hm⟩ := hT.len
 have h1 := Lib.countB_le ⟨#[47]⟩ (by decide) l.length ⟨l.toArray⟩ (by rw [Mw.size_mk]; exact Nat.le_refl _)
 rw [Mw.size_mk] at h1
 have := rets_below (Tryz.strings_ReplaceAll ⟨l.toArray⟩ ⟨#[47]⟩ ⟨#[10]⟩ m w (by rw [Mw.size_mk]; omega) hm (by decide) (by
  rw [Mw.size_mk]
  show l.length + Lib.countB ⟨l.toArray⟩ ⟨#[47]⟩ * 1 ≤ _
  omega))
 have e : Lib.replaceAll l [47] [10] = slash l := replaceAll_one 47 _ l (by decide)
 rw [← e]
 exact this
theorem read_ok (s : List UInt8) {p : PlanM} (hs : s.length ≤ 1000) (hp : parseP (slash s) = (p, 0, 0)) (hT : TabsX w) : Rets Tryz.prog 97 [str s] w fun v w' => ∃ x, v = .tuple #[x, .bool true] ∧ True ∧ Turn noB (planH x p) w w' := by
 have H := Sep.start0 w
 have hsl := slash_len s
 refine retsC1 Tryz.func97 rfl rfl rfl rfl ?_
 refine Sr (FL_alloc H (h := fun b2 w2 H2 k1 => ?_))
 refine Am ?_
 refine Nx (Mv ?_)
 refine FL_callQ H2 (replaceSl_ok s (by omega) (hT.keep H2.kept)) (h := fun w6 H6 k5 => ?_)
 refine FL_callN H6 (parsePE_ok (slash s) (.inl (by omega)) (by omega) (hT.keep H6.kept)) (h := fun x w8 _ H8 k7 => ?_)
 rw [hp] at H8 ⊢
 dsimp only at H8 ⊢
 obtain ⟨A, a, B, b, rfl⟩ := plan_form (Sep.sees H8 At0)
 refine Mv ?_
 refine Vx ?_
 refine Vx ?_
 refine Vx ?_
 refine FL_alloc H8 (h := fun b4 w14 H14 k13 => ?_)
 refine FL_storeAll H14 (h := fun w16 H16 => ?_)
 refine Am ?_
 refine Am ?_
 refine Nx (FL_loadAll H16 (h := ?_))
 refine Mv ?_
 refine Ve ?_
 refine Mv ?_
 refine FL_splitP (t := 17) rfl (fun hs23 => ?_) (fun hs23 => ?_)
 ·refine On (Mv ?_)
  refine On (Ve ?_)
  refine Pt ?_
  refine FL_storeAll H16 (h := fun w28 H28 => ?_)
  refine Am ?_
  refine Qn (FW_ret (QfnC_ret (h := ?_)))
  exact ⟨_, resC2 H28, _, rfl, trivial, H28.front1.first.turn⟩
 exact (hs23 trivial).elim
theorem smallC_ok : Rets Tryz.prog 53 [] w fun v w' => ∃ x : Nat, v = .slice (some ⟨x, 0, none⟩) 3 3 ∧ True ∧ Turn noB (blk x (smallP.flatMap colCells) 49) w w' := by
 have H := Sep.start0 w
 refine rets0 Tryz.func53 rfl rfl rfl ?_
 refine Sr (Am ?_)
 refine Nx (Vv (Gives.build (out := typeCells ⟨2, false⟩) (Fills.one rfl rfl rfl (by simp) rfl Fills.nil)) (Vv (Gives.build (out := colCells ⟨1, [], ⟨2, false⟩, cell0⟩) (Fills.one rfl rfl rfl (by simp) rfl (Fills.many rfl rfl (Nat.le_of_ble_eq_true rfl) rfl Fills.nil))) ?_))
 refine Vv (Gives.build (out := typeCells ⟨4, true⟩) (Fills.one rfl rfl rfl (by simp) rfl (Fills.one rfl rfl rfl (by simp) rfl Fills.nil))) (Vv (Gives.build (out := colCells ⟨2, [], ⟨4, true⟩, cell0⟩) (Fills.one rfl rfl rfl (by simp) rfl (Fills.many rfl rfl (Nat.le_of_ble_eq_true rfl) rfl Fills.nil))) ?_)
 refine Vv (Gives.build (out := typeCells ⟨1, false⟩) (Fills.one rfl rfl rfl (by simp) rfl Fills.nil)) (Vv (Gives.build (out := colCells ⟨3, [], ⟨1, false⟩, cell0⟩) (Fills.one rfl rfl rfl (by simp) rfl (Fills.many rfl rfl (Nat.le_of_ble_eq_true rfl) rfl Fills.nil))) ?_)
 refine FL_buildSlice H (xs := [.tmp 2, .tmp 4, .tmp 6]) (out := smallP.flatMap colCells) (Elems.many rfl rfl (Elems.many rfl rfl (Elems.many rfl rfl Elems.nil))) rfl rfl rfl (fun ba w9 H9 k8 => ?_)
 refine Am ?_
 refine Qn (FW_ret (Qfn_ret (hR := ?_)))
 exact ⟨ba, rfl, trivial, H9.turn⟩
theorem comes_ok (s : List UInt8) {p : PlanM} {cols : List ColM} {vw : Value} (hs : s.length ≤ 1000) (hp : parseP (slash s) = (p, 0, 0)) (hc : checkP smallP p = (cols, 0)) (hw : RowIn w vw colCells 7 cols) (hT : TabsX w) : Rets Tryz.prog 51 [str s, vw] w fun v w' => v = .bool true ∧ Kept noB w w' := by
 have H := Sep.start0 w
 obtain ⟨hfit, hn⟩ := parse_small (slash s)
 rw [hp] at hfit hn
 dsimp only at hfit hn
 refine rets2 Tryz.func51 rfl rfl rfl rfl ?_
 refine Sr (Am ?_)
 refine Nx (Mv ?_)
 refine FL_callN H (read_ok s hs hp (hT.keep H.kept)) (h := fun x w4 _ H4 k3 => ?_)
 obtain ⟨A, a, B, b, rfl⟩ := plan_form (Sep.sees H4 At0)
 refine Mv ?_
 refine Vx ?_
 refine Vx ?_
 refine FL_alloc H4 (h := fun b5 w9 H9 k8 => ?_)
 refine FL_storeAll H9 (h := fun w11 H11 => ?_)
 refine Am ?_
 refine Qn (FW_seq (FW_drawS rfl H11 (h := fun hok13 w15 H15 => ?_)))
 refine FGloadAll hok13 1 H15 (h := ?_)
 refine FGcallN hok13 0 [(1, false)] H15 smallC_ok (h := fun bs w18 _ H18 k17 => ⟨(Stab_cons rfl (by kernel_rfl) (Gives.loadN rfl (H18.obj At1) (us := [.slice A p.wh.length a, .slice B p.cols.length b, I p.group]) rfl rfl) rfl (Stab_nil)), ?_⟩)
 refine FGcallN hok13 2 [] H18 (checkE_ok (cols := smallP) ⟨some ⟨bs, 0, none⟩, 3, rfl, ⟨Nat.le_refl _, by decide⟩, Sep.blkRow H18 At0 rfl⟩ (Sep.sees H18 At2) hfit.1 hfit.2 (by omega) (hT.keep H18.kept)) (h := fun vo w20 _ H20 k19 => ?_)
 rw [hc] at H20 ⊢
 dsimp only at H20 ⊢
 refine ⟨Stab_nil, ?_⟩
 refine Gm hok13 3 ?_
 refine Gp hok13 4 rfl rfl (fun _ => (Gives.extract rfl rfl)) (Gp hok13 5 rfl rfl (fun _ => (Gives.extract rfl rfl)) ?_)
 refine Gp hok13 6 rfl rfl (fun _ => Gives.assign rfl) (Gp hok13 7 rfl rfl (fun _ => Gives.assign rfl) ?_)
 refine FG_end hok13 (by kernel_rfl) ?_
 refine Qseq_normal (Sr (Mv ?_))
 refine Mv ?_
 refine FL_split (t := 21) rfl (fun hs27 => ?_) (fun hs27 => ?_)
 ·refine On (Mv ?_)
  refine On (Ve ?_)
  refine Pt ?_
  refine Mv ?_
  refine FL_splitP (t := 25) rfl (fun hs32 => ?_) (fun hs32 => ?_)
  ·refine On (Mv ?_)
   refine On (Mv ?_)
   refine On (FL_callQ H20 (colsEq_ok (a := cols) (b := cols) (Sep_in H20 At0) (hw.keep H20.kept)) (h := fun w36 H36 k35 => ?_))
   refine Pt ?_
   refine Am ?_
   refine Qn (FW_ret (Qfn_ret (hR := ?_)))
   exact ⟨by simp [resPack], H36.kept⟩
  exact (hs32 trivial).elim
 exact absurd hs27 (by decide)
theorem fits_ok (s : List UInt8) {p : PlanM} {e : Int} (hs : s.length ≤ 1000) (hp : parseP (slash s) = (p, 0, 0)) (hc : checkP smallP p = ([], e)) (hT : TabsX w) : Rets Tryz.prog 52 [str s, I e] w fun v w' => v = .bool true ∧ Kept noB w w' := by
 have H := Sep.start0 w
 obtain ⟨hfit, hn⟩ := parse_small (slash s)
 rw [hp] at hfit hn
 dsimp only at hfit hn
 refine rets2 Tryz.func52 rfl rfl rfl rfl ?_
 refine Sr (Am ?_)
 refine Nx (Mv ?_)
 refine FL_callN H (read_ok s hs hp (hT.keep H.kept)) (h := fun x w4 _ H4 k3 => ?_)
 obtain ⟨A, a, B, b, rfl⟩ := plan_form (Sep.sees H4 At0)
 refine Mv ?_
 refine Vx ?_
 refine Vx ?_
 refine FL_alloc H4 (h := fun b5 w9 H9 k8 => ?_)
 refine FL_storeAll H9 (h := fun w11 H11 => ?_)
 refine Am ?_
 refine Qn (FW_seq (FW_drawS rfl H11 (h := fun hok13 w15 H15 => ?_)))
 refine FGloadAll hok13 1 H15 (h := ?_)
 refine FGcallN hok13 0 [(1, false)] H15 smallC_ok (h := fun bs w18 _ H18 k17 => ⟨(Stab_cons rfl (by kernel_rfl) (Gives.loadN rfl (H18.obj At1) (us := [.slice A p.wh.length a, .slice B p.cols.length b, I p.group]) rfl rfl) rfl (Stab_nil)), ?_⟩)
 refine FGcallN hok13 2 [] H18 (checkE_ok (cols := smallP) ⟨some ⟨bs, 0, none⟩, 3, rfl, ⟨Nat.le_refl _, by decide⟩, Sep.blkRow H18 At0 rfl⟩ (Sep.sees H18 At2) hfit.1 hfit.2 (by omega) (hT.keep H18.kept)) (h := fun vo w20 _ H20 k19 => ?_)
 rw [hc] at H20 ⊢
 dsimp only at H20 ⊢
 obtain ⟨Ao, co, rfl, _, _⟩ := Sep.formD H20 At0
 refine ⟨Stab_nil, ?_⟩
 refine Gm hok13 3 ?_
 refine Gp hok13 4 rfl rfl (fun _ => (Gives.extract rfl rfl)) (Gp hok13 5 rfl rfl (fun _ => (Gives.extract rfl rfl)) ?_)
 refine Gp hok13 6 rfl rfl (fun _ => Gives.assign rfl) (Gp hok13 7 rfl rfl (fun _ => Gives.assign rfl) ?_)
 refine FG_end hok13 (by kernel_rfl) ?_
 refine Qseq_normal (Sr (Mv ?_))
 refine Mv ?_
 refine FL_split (t := 21) rfl (fun hs27 => ?_) (fun hs27 => ?_)
 ·refine On (Mv ?_)
  refine On (Mv ?_)
  refine On (Ve ?_)
  refine Pt ?_
  refine Mv ?_
  refine FL_splitP (t := 26) rfl (fun hs33 => ?_) (fun hs33 => ?_)
  ·refine On (Mv ?_)
   refine On (Vs ?_)
   refine On (Ve ?_)
   refine Pt ?_
   refine Am ?_
   refine Qn (FW_ret (Qfn_ret (hR := ?_)))
   exact ⟨rfl, H20.kept⟩
  exact (hs33 trivial).elim
 exact absurd hs27 (by decide)
theorem fails_ok (s : List UInt8) {n e : Int} (hs : s.length ≤ 1000) (hp : parseP (slash s) = (plan0, n, e)) (hT : TabsX w) : Rets Tryz.prog 54 [str s, I n, I e] w fun v w' => v = .bool true ∧ Kept noB w w' := by
 have H := Sep.start0 w
 have hsl := slash_len s
 refine rets3 Tryz.func54 rfl rfl rfl rfl ?_
 refine Sr (Am ?_)
 refine Nx (Mv ?_)
 refine FL_callQ H (replaceSl_ok s (by omega) (hT.keep H.kept)) (h := fun w4 H4 k3 => ?_)
 refine FL_callN H4 (parsePE_ok (slash s) (.inl (by omega)) (by omega) (hT.keep H4.kept)) (h := fun x w6 _ H6 k5 => ?_)
 rw [hp] at H6 ⊢
 dsimp only at H6 ⊢
 obtain ⟨A, a, B, b, rfl⟩ := plan_form (Sep.sees H6 At0)
 refine Mv ?_
 refine Vx ?_
 refine Vx ?_
 refine Vx ?_
 refine FL_alloc H6 (h := fun b7 w12 H12 k11 => ?_)
 refine FL_storeAll H12 (h := fun w14 H14 => ?_)
 refine Am ?_
 refine Am ?_
 refine Nx (Mv ?_)
 refine Mv ?_
 refine Ve ?_
 refine Mv ?_
 refine FL_splitP (t := 20) rfl (fun hs21 => ?_) (fun hs21 => ?_)
 ·refine On (Mv ?_)
  refine On (Mv ?_)
  refine On (Ve ?_)
  refine Pt ?_
  refine Mv ?_
  refine FL_splitP (t := 25) rfl (fun hs27 => ?_) (fun hs27 => ?_)
  ·refine On (FL_loadAll H14 (h := ?_))
   refine On (Vv (Gives.build (out := [.slice none 0 0, .slice none 0 0, I 0]) Fills.nil) (On ?_))
   refine FL_callQ H14 (sameE_ok (p := plan0) (q := plan0) (Sep.sees H14 At1) (plan0_in _)) (h := fun w31 H31 k30 => ?_)
   refine Pt ?_
   refine Am ?_
   refine Qn (FW_ret (Qfn_ret (hR := ?_)))
   exact ⟨by simp [resPack], H31.kept⟩
  exact (hs27 trivial).elim
 exact (hs21 trivial).elim
end
def wq0 : List UInt8 := [119, 104, 101, 114, 101, 32, 110, 111, 110, 101, 47, 111, 117, 116, 32, 97, 32, 35, 49, 47, 111, 117, 116, 32, 98, 32, 35, 50, 32, 105, 115, 110, 117, 108, 108, 47, 103, 114, 111, 117, 112, 32, 110, 111, 110, 101, 47]
def wq1 : List UInt8 := [119, 104, 101, 114, 101, 32, 35, 51, 47, 111, 117, 116, 32, 115, 32, 35, 50, 47, 111, 117, 116, 32, 116, 111, 116, 97, 108, 32, 35, 49, 32, 50, 32, 42, 47, 103, 114, 111, 117, 112, 32, 49, 47]
def wq2 : List UInt8 := [119, 104, 101, 114, 101, 32, 35, 49, 47, 111, 117, 116, 32, 97, 32, 35, 49, 47, 103, 114, 111, 117, 112, 32, 110, 111, 110, 101, 47]
def wq3 : List UInt8 := [119, 104, 101, 114, 101, 32, 110, 111, 110, 101, 47, 111, 117, 116, 32, 97, 32, 35, 50, 47, 103, 114, 111, 117, 112, 32, 48, 47]
def wq4 : List UInt8 := [119, 104, 101, 114, 101, 32, 110, 111, 110, 101, 47, 111, 117, 116, 32, 97, 32, 35, 52, 47, 103, 114, 111, 117, 112, 32, 110, 111, 110, 101, 47]
def wn0 : List UInt8 := [119, 104, 101, 114, 101, 32, 110, 111, 110, 101, 47, 111, 117, 116, 32, 97, 32, 35, 49, 47, 111, 117, 116, 32, 97, 32, 35, 49, 47, 103, 114, 111, 117, 112, 32, 110, 111, 110, 101, 47]
def wn1 : List UInt8 := [119, 104, 101, 114, 101, 32, 110, 111, 110, 101, 47, 103, 114, 111, 117, 112, 32, 110, 111, 110, 101, 47]
def wn2 : List UInt8 := [119, 104, 101, 114, 101, 32, 110, 111, 110, 101, 47, 111, 117, 116, 32, 97, 32, 35, 49, 47]
def wn3 : List UInt8 := [119, 104, 101, 114, 101, 32, 110, 111, 110, 101, 47, 111, 117, 116, 32, 97, 32, 35, 49, 47, 103, 114, 111, 117, 112, 32, 50, 47]
def wn4 : List UInt8 := [119, 104, 101, 114, 101, 47]
def wn5 : List UInt8 := []
def wn6 : List UInt8 := [119, 104, 101, 114, 101, 32, 110, 111, 110, 101, 47, 111, 117, 116, 32, 97, 32, 35, 49, 47, 103, 114, 111, 117, 112, 32, 48, 49, 47]
theorem wq_ex : slTx = [wq0, wq1, wq2, wq3, wq4] ∧ slNo = [wn0, wn1, wn2, wn3, wn4, wn5, wn6] := by decide +kernel
theorem wq0_p : parseP (slash wq0) = (exPl.getD 0 plan0, 0, 0) := ex_parse 0 (by rw [wq_ex.1]; rfl) rfl
theorem wq1_p : parseP (slash wq1) = (exPl.getD 1 plan0, 0, 0) := ex_parse 1 (by rw [wq_ex.1]; rfl) rfl
theorem wq2_p : parseP (slash wq2) = (exPl.getD 2 plan0, 0, 0) := ex_parse 2 (by rw [wq_ex.1]; rfl) rfl
theorem wq3_p : parseP (slash wq3) = (exPl.getD 3 plan0, 0, 0) := ex_parse 3 (by rw [wq_ex.1]; rfl) rfl
theorem wq4_p : parseP (slash wq4) = (exPl.getD 4 plan0, 0, 0) := ex_parse 4 (by rw [wq_ex.1]; rfl) rfl
theorem wn0_p : parseP (slash wn0) = (plan0, 0, 2) := no_parse 0 (by rw [wq_ex.2]; rfl) rfl
theorem wn1_p : parseP (slash wn1) = (plan0, 1, 4) := no_parse 1 (by rw [wq_ex.2]; rfl) rfl
theorem wn2_p : parseP (slash wn2) = (plan0, 2, 4) := no_parse 2 (by rw [wq_ex.2]; rfl) rfl
theorem wn3_p : parseP (slash wn3) = (plan0, 0, 2) := no_parse 3 (by rw [wq_ex.2]; rfl) rfl
theorem wn4_p : parseP (slash wn4) = (plan0, 0, 4) := no_parse 4 (by rw [wq_ex.2]; rfl) rfl
theorem wn5_p : parseP (slash wn5) = (plan0, 0, 4) := no_parse 5 (by rw [wq_ex.2]; rfl) rfl
theorem wn6_p : parseP (slash wn6) = (plan0, 2, 4) := no_parse 6 (by rw [wq_ex.2]; rfl) rfl
def cw0 : List ColM := [⟨1, [97], ⟨3, false⟩, cell0⟩, ⟨2, [98], ⟨1, false⟩, cell0⟩]
def cw1 : List ColM := [⟨1, [115], ⟨4, true⟩, ⟨true, 0, []⟩⟩, ⟨2, countW, ⟨3, false⟩, cell0⟩, ⟨3, [116, 111, 116, 97, 108], ⟨3, false⟩, cell0⟩]
theorem exc (i : Nat) {p : PlanM} {x : List ColM × Int} (hp : exPl[i]? = some p) (hx : exCh[i]? = some x) : checkP smallP p = x := by
 rw [← ex_check.1, List.getElem?_map, hp] at hx
 injection hx
theorem wq0_c : checkP smallP (exPl.getD 0 plan0) = (cw0, 0) := exc 0 rfl rfl
theorem wq1_c : checkP smallP (exPl.getD 1 plan0) = (cw1, 0) := exc 1 rfl rfl
theorem wq2_c : checkP smallP (exPl.getD 2 plan0) = ([], 230) := exc 2 rfl rfl
theorem wq3_c : checkP smallP (exPl.getD 3 plan0) = ([], 230) := exc 3 rfl rfl
theorem wq4_c : checkP smallP (exPl.getD 4 plan0) = ([], 220) := exc 4 rfl rfl
def cntP : PlanM := ⟨[], [⟨countW, [⟨1, 1, []⟩]⟩], 0⟩
theorem cntP_fit : AllFit cntP := ⟨fun x hx => absurd hx List.not_mem_nil, fun o ho x hx => by
 have ho' := List.mem_singleton.1 ho
 subst ho'
 have hx' := List.mem_singleton.1 hx
 subst hx'
 unfold fits; decide⟩
section
variable {w : World}
theorem worksP_ok (hT : TabsX w) : Rets Tryz.prog 18 [] w fun v w' => v = .bool true ∧ Kept noB w w' := by
 have H := Sep.start0 w
 refine rets0 Tryz.func18 rfl rfl rfl ?_
 refine Sr (Am ?_)
 refine Nx (Vv (Gives.build (out := typeCells wholeT) (Fills.one rfl rfl rfl (by simp) rfl Fills.nil)) (FL_alloc H (h := fun b1 w4 H4 k3 => ?_)))
 refine FL_storeAll H4 (h := fun w6 H6 => ?_)
 refine Qn (FW_seq (Sr (FL_loadAll H6 (h := ?_))))
 refine Vv (Gives.build (out := colCells ⟨1, [97], ⟨3, false⟩, cell0⟩) (Fills.one rfl rfl rfl (by simp) rfl (Fills.one rfl rfl rfl (by simp) rfl (Fills.many rfl rfl (Nat.le_of_ble_eq_true rfl) rfl Fills.nil)))) (Vv (Gives.build (out := typeCells ⟨1, false⟩) (Fills.one rfl rfl rfl (by simp) rfl Fills.nil)) ?_)
 refine Vv (Gives.build (out := colCells ⟨2, [98], ⟨1, false⟩, cell0⟩) (Fills.one rfl rfl rfl (by simp) rfl (Fills.one rfl rfl rfl (by simp) rfl (Fills.many rfl rfl (Nat.le_of_ble_eq_true rfl) rfl Fills.nil)))) (FL_buildSlice H6 (xs := [.tmp 6, .tmp 8]) (out := cw0.flatMap colCells) (Elems.many rfl rfl (Elems.many rfl rfl Elems.nil)) rfl rfl rfl (fun ba w12 H12 k11 => ?_))
 refine FL_callQ H12 (comes_ok wq0 (by decide) wq0_p wq0_c ⟨some ⟨ba, 0, none⟩, 2, rfl, ⟨Nat.le_refl _, by decide⟩, Sep.blkRow H12 At0 rfl⟩ (hT.keep H12.kept)) (h := fun w14 H14 k13 => ?_)
 refine Vv (Gives.not rfl) (Mv ?_)
 refine FL_split (t := 12) rfl (fun hs17 => ?_) (fun hs17 => ?_)
 ·exact Bool.noConfusion hs17
 refine On (Vv (Gives.build (out := typeCells ⟨4, true⟩) (Fills.one rfl rfl rfl (by simp) rfl (Fills.one rfl rfl rfl (by simp) rfl Fills.nil))) (On ?_))
 refine Vv (Gives.build (out := cellCells ⟨true, 0, []⟩) (Fills.one rfl rfl rfl (by simp) rfl Fills.nil)) (On ?_)
 refine Vv (Gives.build (out := colCells ⟨1, [115], ⟨4, true⟩, ⟨true, 0, []⟩⟩) (Fills.one rfl rfl rfl (by simp) rfl (Fills.one rfl rfl rfl (by simp) rfl (Fills.many rfl rfl (Nat.le_of_ble_eq_true rfl) rfl (Fills.many rfl rfl (Nat.le_of_ble_eq_true rfl) rfl Fills.nil))))) (On ?_)
 refine FL_loadAll H14 (h := ?_)
 refine On (Vv (Gives.build (out := colCells ⟨2, countW, ⟨3, false⟩, cell0⟩) (Fills.one rfl rfl rfl (by simp) rfl (Fills.one rfl rfl rfl (by simp) rfl (Fills.many rfl rfl (Nat.le_of_ble_eq_true rfl) rfl Fills.nil)))) (On ?_))
 refine FL_loadAll H14 (h := ?_)
 refine On (Vv (Gives.build (out := colCells ⟨3, [116, 111, 116, 97, 108], ⟨3, false⟩, cell0⟩) (Fills.one rfl rfl rfl (by simp) rfl (Fills.one rfl rfl rfl (by simp) rfl (Fills.many rfl rfl (Nat.le_of_ble_eq_true rfl) rfl Fills.nil)))) (On ?_))
 refine FL_buildSlice H14 (xs := [.tmp 15, .tmp 17, .tmp 19]) (out := cw1.flatMap colCells) (Elems.many rfl rfl (Elems.many rfl rfl (Elems.many rfl rfl Elems.nil))) rfl rfl rfl (fun bb w27 H27 k26 => ?_)
 refine On (FL_callQ H27 (comes_ok wq1 (by decide) wq1_p wq1_c ⟨some ⟨bb, 0, none⟩, 3, rfl, ⟨Nat.le_refl _, by decide⟩, Sep.blkRow H27 At0 rfl⟩ (hT.keep H27.kept)) (h := fun w29 H29 k28 => ?_))
 refine On (Vv (Gives.not rfl) (Pf ?_))
 refine Qn (Cd rfl (fun hc32 => ?_) (fun hc32 => ?_))
 ·exact Bool.noConfusion hc32
 refine Sk (FW_seq (Sr (FL_callQ H29 (fits_ok wq2 (by decide) wq2_p wq2_c (hT.keep H29.kept)) (h := fun w35 H35 k34 => ?_))))
 refine Vv (Gives.not rfl) (Mv ?_)
 refine FL_split (t := 26) rfl (fun hs38 => ?_) (fun hs38 => ?_)
 ·exact Bool.noConfusion hs38
 refine On (FL_callQ H35 (fits_ok wq3 (by decide) wq3_p wq3_c (hT.keep H35.kept)) (h := fun w41 H41 k40 => ?_))
 refine On (Vv (Gives.not rfl) (Pf ?_))
 refine Mv ?_
 refine FL_split (t := 30) rfl (fun hs45 => ?_) (fun hs45 => ?_)
 ·exact Bool.noConfusion hs45
 refine On (FL_callQ H41 (fits_ok wq4 (by decide) wq4_p wq4_c (hT.keep H41.kept)) (h := fun w48 H48 k47 => ?_))
 refine On (Vv (Gives.not rfl) (Pf ?_))
 refine Qn (Cd rfl (fun hc51 => ?_) (fun hc51 => ?_))
 ·exact Bool.noConfusion hc51
 refine Sk (Sr (FL_callN H48 smallC_ok (h := fun bc w54 _ H54 k53 => ?_)))
 refine Vv (Gives.build (out := stepCells ⟨1, 1, []⟩) (Fills.one rfl rfl rfl (by simp) rfl (Fills.one rfl rfl rfl (by simp) rfl Fills.nil))) (FL_buildSlice H54 (xs := [.tmp 36]) (out := [(⟨1, 1, []⟩ : StepM)].flatMap stepCells) (Elems.many rfl rfl Elems.nil) rfl rfl rfl (fun bs w57 H57 k56 => ?_))
 refine Vv (Gives.build (out := outCells (countW, .slice (some ⟨bs, 0, none⟩) 1 1)) (Fills.one rfl rfl rfl (by simp) rfl (Fills.one rfl rfl rfl (by simp) rfl Fills.nil))) (FL_buildSlice H57 (xs := [.tmp 38]) (out := [(countW, Value.slice (some ⟨bs, 0, none⟩) 1 1)].flatMap outCells) (Elems.many rfl rfl Elems.nil) rfl rfl rfl (fun bo w60 H60 k59 => ?_))
 refine Vv (Gives.build (out := [.slice none 0 0, .slice (some ⟨bo, 0, none⟩) 1 1, I 0]) (Fills.one rfl rfl rfl (by simp) rfl Fills.nil)) ?_
 have hin : PlanIn _ (agg [.slice none 0 0, .slice (some ⟨bo, 0, none⟩) 1 1, I 0]) cntP := ⟨_, _, rfl, rowIn_none, [(countW, .slice (some ⟨bs, 0, none⟩) 1 1)], ⟨some ⟨bo, 0, none⟩, 1, rfl, ⟨Nat.le_refl _, by decide⟩, Sep.blkRow H60 At0 rfl⟩, (RawOf.nil).push (n := countW) ⟨some ⟨bs, 0, none⟩, 1, rfl, ⟨Nat.le_refl _, by decide⟩, Sep.blkRow H60 At1 rfl⟩⟩
 refine FL_callN H60 (checkE_ok (cols := smallP) (p := cntP) ⟨some ⟨bc, 0, none⟩, 3, rfl, ⟨Nat.le_refl _, by decide⟩, Sep.blkRow H60 At2 rfl⟩ hin cntP_fit.1 cntP_fit.2 (by decide) (hT.keep H60.kept)) (h := fun vo w63 _ H63 k62 => ?_)
 rw [show checkP smallP cntP = ([], 230) from ex_check.2]
 refine Mv ?_
 refine Vx ?_
 refine Vx ?_
 refine Am ?_
 refine Am ?_
 refine Qn (FW_seq (Sr (Mv ?_)))
 refine Vn ?_
 refine Mv ?_
 refine FL_splitP (t := 46) rfl (fun hs72 => ?_) (fun hs72 => ?_)
 ·exact (hs72 trivial).elim
 refine On (FL_callQ H63 (fails_ok wn0 (by decide) wn0_p (hT.keep H63.kept)) (h := fun w75 H75 k74 => ?_))
 refine On (Vv (Gives.not rfl) (Pf ?_))
 refine Mv ?_
 refine FL_split (t := 50) rfl (fun hs79 => ?_) (fun hs79 => ?_)
 ·exact Bool.noConfusion hs79
 refine On (FL_callQ H75 (fails_ok wn1 (by decide) wn1_p (hT.keep H75.kept)) (h := fun w82 H82 k81 => ?_))
 refine On (Vv (Gives.not rfl) (Pf ?_))
 refine Mv ?_
 refine FL_split (t := 54) rfl (fun hs86 => ?_) (fun hs86 => ?_)
 ·exact Bool.noConfusion hs86
 refine On (FL_callQ H82 (fails_ok wn2 (by decide) wn2_p (hT.keep H82.kept)) (h := fun w89 H89 k88 => ?_))
 refine On (Vv (Gives.not rfl) (Pf ?_))
 refine Mv ?_
 refine FL_split (t := 58) rfl (fun hs93 => ?_) (fun hs93 => ?_)
 ·exact Bool.noConfusion hs93
 refine On (FL_callQ H89 (fails_ok wn3 (by decide) wn3_p (hT.keep H89.kept)) (h := fun w96 H96 k95 => ?_))
 refine On (Vv (Gives.not rfl) (Pf ?_))
 refine Qn (Cd rfl (fun hc99 => ?_) (fun hc99 => ?_))
 ·exact Bool.noConfusion hc99
 refine Sk (Sr (FL_callQ H96 (fails_ok wn4 (by decide) wn4_p (hT.keep H96.kept)) (h := fun w102 H102 k101 => ?_)))
 refine Mv ?_
 refine FL_split (t := 63) rfl (fun hs104 => ?_) (fun hs104 => ?_)
 ·refine On (FL_callQ H102 (fails_ok wn5 (by decide) wn5_p (hT.keep H102.kept)) (h := fun w106 H106 k105 => ?_))
  refine Pt ?_
  refine Mv ?_
  refine FL_split (t := 66) rfl (fun hs109 => ?_) (fun hs109 => ?_)
  ·refine On (FL_callQ H106 (fails_ok wn6 (by decide) wn6_p (hT.keep H106.kept)) (h := fun w111 H111 k110 => ?_))
   refine Pt ?_
   refine Am ?_
   refine Qn (FW_ret (Qfn_ret (hR := ?_)))
   exact ⟨rfl, H111.kept⟩
  exact absurd hs109 (by decide)
 exact absurd hs104 (by decide)
end
end Go.Proofs.YtolaedhdjcnijaaGreatDoor
namespace Go.Mw
open Go.RowKit
section
variable {P : Program} {ρ : Operand → Value} {ty : TypeId} {w w₀ : World} {x y : Operand} {α : Type} {enc : α → List Value} {k : Nat} {l : List α} {A : Option Addr}
end
end Go.Mw
namespace Go.Proofs.YtolaedhdjcnijaaGreatDoor
open Go Go.Mw Go.Lib
set_option maxRecDepth 4000
def pairCells (x : Int × Int) : List Value := [I x.1, I x.2]
instance : EncK pairCells 2 := ⟨fun _ => rfl⟩
section
variable {w : World}
end
section
variable {w : World}
end
section
variable {w : World}
end
end Go.Proofs.YtolaedhdjcnijaaGreatDoor
namespace Go.Mw
open Go.RowKit
section
variable {P : Program} {r : Option Nat} {n : Nat} {ops : Array Oper} {Q : Post} {rest : List Oper} {σ : St} {w w₀ : World} {S : Nat → Prop} {rs : List HP} {put : HP → List HP} {ty : TypeId} {pos : String} {after : Array Edge} {lv : List Bool} {pd : List (Nat × Bool)} {guard : Option (Nat × Bool)}
variable {α : Type} {enc : α → List Value} {k e c : Nat} {l : List α} {A : Option Addr}
theorem flat_setN (hk : ∀ x, (enc x).length = k) (a' : α) : ∀ {l : List α} {i : Nat}, i < l.length → (l.flatMap enc).take (i * k) ++ enc a' ++ (l.flatMap enc).drop (i * k + k) = (l.set i a').flatMap enc
 | [], _, h => absurd h (by simp)
 | x :: l, 0, _ => by
  rw [Nat.zero_mul, List.take_zero, List.nil_append, Nat.zero_add, List.set_cons_zero, List.flatMap_cons, List.flatMap_cons, List.drop_left' (hk x)]
 | x :: l, i + 1, h => by
  have ih := flat_setN hk a' (l := l) (i := i) (by simpa using h)
  have hx := hk x
  rw [List.set_cons_succ, List.flatMap_cons, List.flatMap_cons, List.take_append, List.take_of_length_le (by rw [hx, Nat.succ_mul]; omega), List.drop_append, List.drop_of_length_le (by rw [hx, Nat.succ_mul]; omega), hx, show (i + 1) * k - k = i * k by rw [Nat.succ_mul]; omega, show (i + 1) * k + k - k = i * k + k by rw [Nat.succ_mul]; omega, List.nil_append, List.append_assoc, List.append_assoc, ← List.append_assoc ((l.flatMap enc).take (i * k)), ih]
theorem acts_storeDN {ρ : Operand → Value} {x y : Operand} {T : TypeId} [h1 : Agg P T k] [hk : EncK enc k] {i : Nat} (a' : α) {m : Nat} (hm : m = l.length) (H : Sep w₀ S rs w) (hat : At rs (rowD e k enc (.slice A m c) l) put) (hi : i < l.length) (hx : ρ x = adr A (i * k)) (hy : ρ y = .agg (enc a').toArray) (hv : (enc a').all Value.oneCell' = true) :
    ∃ w', Acts P ρ (.store T x y) ty w w' ∧ Sep w₀ S (put (rowD e k enc (.slice A m c) (l.set i a'))) w' := by
  subst hm
  obtain ⟨F, hp, hS, hput⟩ := H.focus hat
  have H0 := Sep.start1 hp
  obtain ⟨g, c', rest, hvv, hlen, hxl, hle, hmx, H1⟩ := H0.rowOpen At0 (by omega)
  injection hvv with hA _ hc
  subst hA; subst hc
  have hb := H1.obj At0
  have hfl := flat_len hk.len l
  have hu : (enc a').length = k := hk.len a'
  have hle2 : (i + 1) * k ≤ l.length * k := Nat.mul_le_mul_right k hi
  rw [Nat.succ_mul] at hle2
  have hst := run_storeCells_at P g (i * k) e (enc a') 0 (l.flatMap enc ++ rest).toArray w hb (by simp only [List.size_toArray, List.length_append, hfl, hu]; omega) (fun u hu => List.all_eq_true.1 hv u hu)
  have hs : (l.flatMap enc ++ rest).take (i * k) ++ enc a' ++ (l.flatMap enc ++ rest).drop (i * k + (enc a').length) = (l.set i a').flatMap enc ++ rest := by
    rw [hu, List.take_append_of_le_length (by rw [hfl]; omega), List.drop_append_of_le_length (by rw [hfl]; omega), ← flat_setN hk.len a' hi]
    simp only [List.append_assoc]
  have hkk : Kept (fun z => z = g) w (w.setRow g ((l.set i a').flatMap enc ++ rest).toArray) := ⟨rfl, rfl, rfl, by simp, fun j hj hS => by simp only [World.setRow, Array.getElem?_modify]; rw [if_neg (fun e => hS e.symm)]⟩
  have ho' : (w.setRow g ((l.set i a').flatMap enc ++ rest).toArray).heap[g]? = some (.cells ((l.set i a').flatMap enc ++ rest).toArray e (0, 0)) := by
    simp only [World.setRow, Array.getElem?_modify, if_true, hb, Option.map_some]
  have H3 : Sep w F [blk g ((l.set i a').flatMap enc ++ rest) e] _ := H1.setObj (At0 (p := blk g (l.flatMap enc ++ rest) e) (l := [])) hkk ho'
  have hfl2 := flat_len hk.len (l.set i a')
  rw [List.length_set] at hfl2
  have H4 := H3.rowShut (n := l.length) (c := c) At0 (by rw [List.length_append, hfl2]; rw [List.length_append, hfl] at hlen; exact hlen) hfl2 hle hmx
  refine ⟨w.setRow g ((l.set i a').flatMap enc ++ rest).toArray, fun _ _ _ _ => ?_, ?_⟩
  · have hx' : ρ x = .pointer (some ⟨g, i * k, none⟩) := by rw [hx]; show Value.pointer (some (Addr.add ⟨g, 0, none⟩ (i * k))) = _; rw [Addr.add_lit, Nat.zero_add]
    have hst2 := hst
    simp only [Nat.add_zero] at hst2
    rw [hs] at hst2
    simp [execOp, hx', hy, Instr.storeAt, Instr.sureAddr, storeVar, h1.size, Value.cells, hu]
    rw [hst2]
    simp
  obtain ⟨h5, F5, h6, h7⟩ := H4
  refine hput _ F5 _ h5 ?_ fun b hb => h7 b hb
  have h8 := starL_one.1 h6
  show (rowH e k (.slice (some ⟨g, 0, none⟩) l.length c) (l.set i a').length ((l.set i a').flatMap enc)).ok F5 _
  rw [List.length_set]
  exact h8
end
end Go.Mw
namespace Go.Proofs.YtolaedhdjcnijaaGreatDoor
open Go Go.Mw Go.Lib
set_option maxRecDepth 4000
theorem RowTo.set {m i : Nat} {r : List CellM} {c : CellM} (h : RowTo m r) (hc : fits c.n ∧ ∀ b, okC (colAt b i).type c) : RowTo m (r.set i c) := by
 refine ⟨by rw [List.length_set]; exact h.len, fun y hy => ?_, fun b j d hd => ?_⟩
 ·rcases List.mem_or_eq_of_mem_set hy with h1 | h1
  ·exact h.fit y h1
  rw [h1]; exact hc.1
 by_cases hj : i = j
 ·subst hj
  rw [List.getElem?_set_self' ] at hd
  cases hg : r[i]? with
  | none => rw [hg] at hd; cases hd
  | some z => rw [hg] at hd; simp at hd; rw [← hd]; exact hc.2 b
 rw [List.getElem?_set_ne hj] at hd; exact h.ok b j d hd
section
variable {w : World}
end
section
variable {w : World}
end
def hi0 (k a b : Int) : Int := if k = 8 then a / 4294967296 - b / 4294967296 else a / 4294967296 + b / 4294967296
section
variable {w : World}
end
end Go.Proofs.YtolaedhdjcnijaaGreatDoor
