/-
 The law's examples, all of them, walked.
-/
import Derived.Test.YtolaedhdjcnijaaGreatDoorKc23
set_option linter.unusedVariables false
set_option linter.unusedSimpArgs false
namespace Go.Proofs.YtolaedhdjcnijaaGreatDoor
open Go Go.Mw Go.Lib
set_option maxRecDepth 4000
def wq0 : List UInt8 := [119, 104, 101, 114, 101, 32, 110, 111, 110, 101, 47, 111, 117, 116, 32, 97, 32, 35, 49, 47, 111, 117, 116, 32, 98, 32, 35, 50, 32, 105, 115, 110, 117, 108, 108, 47, 103, 114, 111, 117, 112, 32, 110, 111, 110, 101, 47]
def wq1 : List UInt8 := [119, 104, 101, 114, 101, 32, 35, 51, 47, 111, 117, 116, 32, 115, 32, 35, 50, 47, 111, 117, 116, 32, 116, 111, 116, 97, 108, 32, 35, 49, 32, 50, 32, 42, 47, 103, 114, 111, 117, 112, 32, 49, 47]
def wq2 : List UInt8 := [119, 104, 101, 114, 101, 32, 35, 49, 47, 111, 117, 116, 32, 97, 32, 35, 49, 47, 103, 114, 111, 117, 112, 32, 110, 111, 110, 101, 47]
def wq3 : List UInt8 := [119, 104, 101, 114, 101, 32, 110, 111, 110, 101, 47, 111, 117, 116, 32, 97, 32, 35, 50, 47, 103, 114, 111, 117, 112, 32, 48, 47]
def wq4 : List UInt8 := [119, 104, 101, 114, 101, 32, 110, 111, 110, 101, 47, 111, 117, 116, 32, 97, 32, 35, 52, 47, 103, 114, 111, 117, 112, 32, 110, 111, 110, 101, 47]
def wn0 : List UInt8 := [119, 104, 101, 114, 101, 32, 110, 111, 110, 101, 47, 111, 117, 116, 32, 97, 32, 35, 49, 47, 111, 117, 116, 32, 97, 32, 35, 49, 47, 103, 114, 111, 117, 112, 32, 110, 111, 110, 101, 47]
def wn1 : List UInt8 := [119, 104, 101, 114, 101, 32, 110, 111, 110, 101, 47, 103, 114, 111, 117, 112, 32, 110, 111, 110, 101, 47]
def wn2 : List UInt8 := [119, 104, 101, 114, 101, 32, 110, 111, 110, 101, 47, 111, 117, 116, 32, 97, 32, 35, 49, 47]
def wn3 : List UInt8 := [119, 104, 101, 114, 101, 32, 110, 111, 110, 101, 47, 111, 117, 116, 32, 97, 32, 35, 49, 47, 103, 114, 111, 117, 112, 32, 50, 47]
def wn4 : List UInt8 := [119, 104, 101, 114, 101, 47]
def wn5 : List UInt8 := []
def wn6 : List UInt8 := [119, 104, 101, 114, 101, 32, 110, 111, 110, 101, 47, 111, 117, 116, 32, 97, 32, 35, 49, 47, 103, 114, 111, 117, 112, 32, 48, 49, 47]
theorem wq_ex : slTx = [wq0, wq1, wq2, wq3, wq4] ∧ slNo = [wn0, wn1, wn2, wn3, wn4, wn5, wn6] := by decide +kernel
theorem wq0_p : parseP (slash wq0) = (exPl.getD 0 plan0, 0, 0) := ex_parse 0 (by rw [wq_ex.1]; rfl) rfl
theorem wq1_p : parseP (slash wq1) = (exPl.getD 1 plan0, 0, 0) := ex_parse 1 (by rw [wq_ex.1]; rfl) rfl
theorem wq2_p : parseP (slash wq2) = (exPl.getD 2 plan0, 0, 0) := ex_parse 2 (by rw [wq_ex.1]; rfl) rfl
theorem wq3_p : parseP (slash wq3) = (exPl.getD 3 plan0, 0, 0) := ex_parse 3 (by rw [wq_ex.1]; rfl) rfl
theorem wq4_p : parseP (slash wq4) = (exPl.getD 4 plan0, 0, 0) := ex_parse 4 (by rw [wq_ex.1]; rfl) rfl
theorem wn0_p : parseP (slash wn0) = (plan0, 0, 2) := no_parse 0 (by rw [wq_ex.2]; rfl) rfl
theorem wn1_p : parseP (slash wn1) = (plan0, 1, 4) := no_parse 1 (by rw [wq_ex.2]; rfl) rfl
theorem wn2_p : parseP (slash wn2) = (plan0, 2, 4) := no_parse 2 (by rw [wq_ex.2]; rfl) rfl
theorem wn3_p : parseP (slash wn3) = (plan0, 0, 2) := no_parse 3 (by rw [wq_ex.2]; rfl) rfl
theorem wn4_p : parseP (slash wn4) = (plan0, 0, 4) := no_parse 4 (by rw [wq_ex.2]; rfl) rfl
theorem wn5_p : parseP (slash wn5) = (plan0, 0, 4) := no_parse 5 (by rw [wq_ex.2]; rfl) rfl
theorem wn6_p : parseP (slash wn6) = (plan0, 2, 4) := no_parse 6 (by rw [wq_ex.2]; rfl) rfl
def cw0 : List ColM := [⟨1, [97], ⟨3, false⟩, cell0⟩, ⟨2, [98], ⟨1, false⟩, cell0⟩]
def cw1 : List ColM := [⟨1, [115], ⟨4, true⟩, ⟨true, 0, []⟩⟩, ⟨2, countW, ⟨3, false⟩, cell0⟩, ⟨3, [116, 111, 116, 97, 108], ⟨3, false⟩, cell0⟩]
theorem exc (i : Nat) {p : PlanM} {x : List ColM × Int} (hp : exPl[i]? = some p) (hx : exCh[i]? = some x) : checkP smallP p = x := by
 rw [← ex_check.1, List.getElem?_map, hp] at hx
 injection hx
theorem wq0_c : checkP smallP (exPl.getD 0 plan0) = (cw0, 0) := exc 0 rfl rfl
theorem wq1_c : checkP smallP (exPl.getD 1 plan0) = (cw1, 0) := exc 1 rfl rfl
theorem wq2_c : checkP smallP (exPl.getD 2 plan0) = ([], 230) := exc 2 rfl rfl
theorem wq3_c : checkP smallP (exPl.getD 3 plan0) = ([], 230) := exc 3 rfl rfl
theorem wq4_c : checkP smallP (exPl.getD 4 plan0) = ([], 220) := exc 4 rfl rfl
def cntP : PlanM := ⟨[], [⟨countW, [⟨1, 1, []⟩]⟩], 0⟩
theorem cntP_fit : AllFit cntP := ⟨fun x hx => absurd hx List.not_mem_nil, fun o ho x hx => by
 have ho' := List.mem_singleton.1 ho
 subst ho'
 have hx' := List.mem_singleton.1 hx
 subst hx'
 unfold fits; decide⟩
section
variable {w : World}
theorem worksP_ok (hT : TabsX w) : Rets Tryz.prog 18 [] w fun v w' => v = .bool true ∧ Kept noB w w' := by
 have H := Sep.start0 w
 refine rets0 Tryz.func18 rfl rfl rfl ?_
 refine Sr (Am ?_)
 refine Nx (Vv (Gives.build (out := typeCells wholeT) (Fills.one rfl rfl rfl (by simp) rfl Fills.nil)) (FL_alloc H (h := fun b1 w4 H4 k3 => ?_)))
 refine FL_storeAll H4 (h := fun w6 H6 => ?_)
 refine Qn (FW_seq (Sr (FL_loadAll H6 (h := ?_))))
 refine Vv (Gives.build (out := colCells ⟨1, [97], ⟨3, false⟩, cell0⟩) (Fills.one rfl rfl rfl (by simp) rfl (Fills.one rfl rfl rfl (by simp) rfl (Fills.many rfl rfl (Nat.le_of_ble_eq_true rfl) rfl Fills.nil)))) (Vv (Gives.build (out := typeCells ⟨1, false⟩) (Fills.one rfl rfl rfl (by simp) rfl Fills.nil)) ?_)
 refine Vv (Gives.build (out := colCells ⟨2, [98], ⟨1, false⟩, cell0⟩) (Fills.one rfl rfl rfl (by simp) rfl (Fills.one rfl rfl rfl (by simp) rfl (Fills.many rfl rfl (Nat.le_of_ble_eq_true rfl) rfl Fills.nil)))) (FL_buildSlice H6 (xs := [.tmp 6, .tmp 8]) (out := cw0.flatMap colCells) (Elems.many rfl rfl (Elems.many rfl rfl Elems.nil)) rfl rfl rfl (fun ba w12 H12 k11 => ?_))
 refine FL_callQ H12 (comes_ok wq0 (by decide) wq0_p wq0_c ⟨some ⟨ba, 0, none⟩, 2, rfl, ⟨Nat.le_refl _, by decide⟩, Sep.blkRow H12 At0 rfl⟩ (hT.keep H12.kept)) (h := fun w14 H14 k13 => ?_)
 refine Vv (Gives.not rfl) (Mv ?_)
 refine FL_split (t := 12) rfl (fun hs17 => ?_) (fun hs17 => ?_)
 ·exact Bool.noConfusion hs17
 refine On (Vv (Gives.build (out := typeCells ⟨4, true⟩) (Fills.one rfl rfl rfl (by simp) rfl (Fills.one rfl rfl rfl (by simp) rfl Fills.nil))) (On ?_))
 refine Vv (Gives.build (out := cellCells ⟨true, 0, []⟩) (Fills.one rfl rfl rfl (by simp) rfl Fills.nil)) (On ?_)
 refine Vv (Gives.build (out := colCells ⟨1, [115], ⟨4, true⟩, ⟨true, 0, []⟩⟩) (Fills.one rfl rfl rfl (by simp) rfl (Fills.one rfl rfl rfl (by simp) rfl (Fills.many rfl rfl (Nat.le_of_ble_eq_true rfl) rfl (Fills.many rfl rfl (Nat.le_of_ble_eq_true rfl) rfl Fills.nil))))) (On ?_)
 refine FL_loadAll H14 (h := ?_)
 refine On (Vv (Gives.build (out := colCells ⟨2, countW, ⟨3, false⟩, cell0⟩) (Fills.one rfl rfl rfl (by simp) rfl (Fills.one rfl rfl rfl (by simp) rfl (Fills.many rfl rfl (Nat.le_of_ble_eq_true rfl) rfl Fills.nil)))) (On ?_))
 refine FL_loadAll H14 (h := ?_)
 refine On (Vv (Gives.build (out := colCells ⟨3, [116, 111, 116, 97, 108], ⟨3, false⟩, cell0⟩) (Fills.one rfl rfl rfl (by simp) rfl (Fills.one rfl rfl rfl (by simp) rfl (Fills.many rfl rfl (Nat.le_of_ble_eq_true rfl) rfl Fills.nil)))) (On ?_))
 refine FL_buildSlice H14 (xs := [.tmp 15, .tmp 17, .tmp 19]) (out := cw1.flatMap colCells) (Elems.many rfl rfl (Elems.many rfl rfl (Elems.many rfl rfl Elems.nil))) rfl rfl rfl (fun bb w27 H27 k26 => ?_)
 refine On (FL_callQ H27 (comes_ok wq1 (by decide) wq1_p wq1_c ⟨some ⟨bb, 0, none⟩, 3, rfl, ⟨Nat.le_refl _, by decide⟩, Sep.blkRow H27 At0 rfl⟩ (hT.keep H27.kept)) (h := fun w29 H29 k28 => ?_))
 refine On (Vv (Gives.not rfl) (Pf ?_))
 refine Qn (Cd rfl (fun hc32 => ?_) (fun hc32 => ?_))
 ·exact Bool.noConfusion hc32
 refine Sk (FW_seq (Sr (FL_callQ H29 (fits_ok wq2 (by decide) wq2_p wq2_c (hT.keep H29.kept)) (h := fun w35 H35 k34 => ?_))))
 refine Vv (Gives.not rfl) (Mv ?_)
 refine FL_split (t := 26) rfl (fun hs38 => ?_) (fun hs38 => ?_)
 ·exact Bool.noConfusion hs38
 refine On (FL_callQ H35 (fits_ok wq3 (by decide) wq3_p wq3_c (hT.keep H35.kept)) (h := fun w41 H41 k40 => ?_))
 refine On (Vv (Gives.not rfl) (Pf ?_))
 refine Mv ?_
 refine FL_split (t := 30) rfl (fun hs45 => ?_) (fun hs45 => ?_)
 ·exact Bool.noConfusion hs45
 refine On (FL_callQ H41 (fits_ok wq4 (by decide) wq4_p wq4_c (hT.keep H41.kept)) (h := fun w48 H48 k47 => ?_))
 refine On (Vv (Gives.not rfl) (Pf ?_))
 refine Qn (Cd rfl (fun hc51 => ?_) (fun hc51 => ?_))
 ·exact Bool.noConfusion hc51
 refine Sk (Sr (FL_callN H48 smallC_ok (h := fun bc w54 _ H54 k53 => ?_)))
 refine Vv (Gives.build (out := stepCells ⟨1, 1, []⟩) (Fills.one rfl rfl rfl (by simp) rfl (Fills.one rfl rfl rfl (by simp) rfl Fills.nil))) (FL_buildSlice H54 (xs := [.tmp 36]) (out := [(⟨1, 1, []⟩ : StepM)].flatMap stepCells) (Elems.many rfl rfl Elems.nil) rfl rfl rfl (fun bs w57 H57 k56 => ?_))
 refine Vv (Gives.build (out := outCells (countW, .slice (some ⟨bs, 0, none⟩) 1 1)) (Fills.one rfl rfl rfl (by simp) rfl (Fills.one rfl rfl rfl (by simp) rfl Fills.nil))) (FL_buildSlice H57 (xs := [.tmp 38]) (out := [(countW, Value.slice (some ⟨bs, 0, none⟩) 1 1)].flatMap outCells) (Elems.many rfl rfl Elems.nil) rfl rfl rfl (fun bo w60 H60 k59 => ?_))
 refine Vv (Gives.build (out := [.slice none 0 0, .slice (some ⟨bo, 0, none⟩) 1 1, I 0]) (Fills.one rfl rfl rfl (by simp) rfl Fills.nil)) ?_
 have hin : PlanIn _ (agg [.slice none 0 0, .slice (some ⟨bo, 0, none⟩) 1 1, I 0]) cntP := ⟨_, _, rfl, rowIn_none, [(countW, .slice (some ⟨bs, 0, none⟩) 1 1)], ⟨some ⟨bo, 0, none⟩, 1, rfl, ⟨Nat.le_refl _, by decide⟩, Sep.blkRow H60 At0 rfl⟩, (RawOf.nil).push (n := countW) ⟨some ⟨bs, 0, none⟩, 1, rfl, ⟨Nat.le_refl _, by decide⟩, Sep.blkRow H60 At1 rfl⟩⟩
 refine FL_callN H60 (checkE_ok (cols := smallP) (p := cntP) ⟨some ⟨bc, 0, none⟩, 3, rfl, ⟨Nat.le_refl _, by decide⟩, Sep.blkRow H60 At2 rfl⟩ hin cntP_fit.1 cntP_fit.2 (by decide) (hT.keep H60.kept)) (h := fun vo w63 _ H63 k62 => ?_)
 rw [show checkP smallP cntP = ([], 230) from ex_check.2]
 refine Mv ?_
 refine Vx ?_
 refine Vx ?_
 refine Am ?_
 refine Am ?_
 refine Qn (FW_seq (Sr (Mv ?_)))
 refine Vn ?_
 refine Mv ?_
 refine FL_splitP (t := 46) rfl (fun hs72 => ?_) (fun hs72 => ?_)
 ·exact (hs72 trivial).elim
 refine On (FL_callQ H63 (fails_ok wn0 (by decide) wn0_p (hT.keep H63.kept)) (h := fun w75 H75 k74 => ?_))
 refine On (Vv (Gives.not rfl) (Pf ?_))
 refine Mv ?_
 refine FL_split (t := 50) rfl (fun hs79 => ?_) (fun hs79 => ?_)
 ·exact Bool.noConfusion hs79
 refine On (FL_callQ H75 (fails_ok wn1 (by decide) wn1_p (hT.keep H75.kept)) (h := fun w82 H82 k81 => ?_))
 refine On (Vv (Gives.not rfl) (Pf ?_))
 refine Mv ?_
 refine FL_split (t := 54) rfl (fun hs86 => ?_) (fun hs86 => ?_)
 ·exact Bool.noConfusion hs86
 refine On (FL_callQ H82 (fails_ok wn2 (by decide) wn2_p (hT.keep H82.kept)) (h := fun w89 H89 k88 => ?_))
 refine On (Vv (Gives.not rfl) (Pf ?_))
 refine Mv ?_
 refine FL_split (t := 58) rfl (fun hs93 => ?_) (fun hs93 => ?_)
 ·exact Bool.noConfusion hs93
 refine On (FL_callQ H89 (fails_ok wn3 (by decide) wn3_p (hT.keep H89.kept)) (h := fun w96 H96 k95 => ?_))
 refine On (Vv (Gives.not rfl) (Pf ?_))
 refine Qn (Cd rfl (fun hc99 => ?_) (fun hc99 => ?_))
 ·exact Bool.noConfusion hc99
 refine Sk (Sr (FL_callQ H96 (fails_ok wn4 (by decide) wn4_p (hT.keep H96.kept)) (h := fun w102 H102 k101 => ?_)))
 refine Mv ?_
 refine FL_split (t := 63) rfl (fun hs104 => ?_) (fun hs104 => ?_)
 ·refine On (FL_callQ H102 (fails_ok wn5 (by decide) wn5_p (hT.keep H102.kept)) (h := fun w106 H106 k105 => ?_))
  refine Pt ?_
  refine Mv ?_
  refine FL_split (t := 66) rfl (fun hs109 => ?_) (fun hs109 => ?_)
  ·refine On (FL_callQ H106 (fails_ok wn6 (by decide) wn6_p (hT.keep H106.kept)) (h := fun w111 H111 k110 => ?_))
   refine Pt ?_
   refine Am ?_
   refine Qn (FW_ret (Qfn_ret (hR := ?_)))
   exact ⟨rfl, H111.kept⟩
  exact absurd hs109 (by decide)
 exact absurd hs104 (by decide)
end
end Go.Proofs.YtolaedhdjcnijaaGreatDoor
namespace Go.Mw
open Go.RowKit
section
variable {P : Program} {ρ : Operand → Value} {ty : TypeId} {w w₀ : World} {x y : Operand} {α : Type} {enc : α → List Value} {k : Nat} {l : List α} {A : Option Addr}
theorem Gives.buildArr {T e m size bytes : Nat} [ht : IsArray P T m e] [hc : Cells P e size bytes] {z : Value} [hz : Zero P T z] {zs : List Value} {parts : List (Nat × Operand)} {out : List Value} (hzs : z.cells = zs.toArray) (h : Fills (fun i : Nat => some (i * size, size)) ρ parts zs out) : Gives P ρ (.build T parts.toArray) ty w (.agg out.toArray) w := fun _ _ _ _ => by
 obtain ⟨i, hi, hsb⟩ := Option.map_eq_some_iff.1 hc.size
 simp only [Prod.mk.injEq] at hsb
 have hf := fill_of h
 simp only [execOp, Instr.build, Sem.run_bind, hz.run, Result.andThen_ok, run_underlying ht.und, hzs, List.map_toArray, sizeOf, typeInfo, run_program, hi, Sem.run_pure, hsb.1, hf]
theorem Gives.idxArrR {t e m : TypeId} [ht : IsArray P t m e] {size bytes : Nat} [hc : Cells P e size bytes] {i o : Nat} {kd : IntKind} (hx : ρ x = adr A o) (hy : ρ y = .int kd i) (hr : Rd w₀ A enc k l) (hn : 0 < l.length) (hlt : i < m) : Gives P ρ (.indexAddr t x y) ty w (adr A (o + i * size)) w := by
 obtain ⟨ad, rfl⟩ := hr.addr hn
 have := Gives.idxArr (P := P) (ty := ty) (w := w) (ht := ht) (hc := hc) (ad := ad.add o) hx hy hlt
 rw [add_add] at this
 exact this
end
end Go.Mw
namespace Go.Proofs.YtolaedhdjcnijaaGreatDoor
open Go Go.Mw Go.Lib
set_option maxRecDepth 4000
def pairCells (x : Int × Int) : List Value := [I x.1, I x.2]
instance : EncK pairCells 2 := ⟨fun _ => rfl⟩
theorem expr_tlen : ∀ y ∈ exprTx ++ whereTx, y.length ≤ 100 := by decide
theorem expr_at {q : Nat} {y : List UInt8} (h : exprTx[q]? = some y) : parseS y = (exprL.getD q [], 0) := by
 have h1 := congrArg (fun l => l[q]?) expr_parse
 simp only [List.getElem?_map, h, Option.map_some] at h1
 have hq : q < exprL.length := by have := get_lt h; exact this
 rw [List.getElem?_eq_getElem hq] at h1
 injection h1 with h1
 rw [h1, List.getD_eq_getElem?_getD, List.getElem?_eq_getElem hq]; rfl
theorem where_at {q : Nat} {y : List UInt8} (h : whereTx[q]? = some y) : parseS y = (whereE.getD q [], 0) := by
 have h1 := congrArg (fun l => l[q]?) where_parse
 simp only [List.getElem?_map, h, Option.map_some] at h1
 have hq : q < whereE.length := by have := get_lt h; exact this
 rw [List.getElem?_eq_getElem hq] at h1
 injection h1 with h1
 rw [h1, List.getD_eq_getElem?_getD, List.getElem?_eq_getElem hq]; rfl
section
variable {w : World}
theorem expressionP_ok (n : Int) (num : Bool) (hT : TabsX w) : Rets Tryz.prog 27 [I n, .bool num] w fun v w' => ∃ x, v = x ∧ True ∧ Turn noB (rowD 60 3 stepCells x (exprP n num)) w w' := by
 have H := Sep.start0 w
 refine rets2 Tryz.func27 rfl rfl rfl rfl ?_
 refine Sr (Am ?_)
 refine Nx (FL_buildSlice H (xs := [_, _, _, _, _, _, _, _, _, _, _, _]) (out := exprTx.flatMap textCells) (Elems.one rfl rfl (Elems.one rfl rfl (Elems.one rfl rfl (Elems.one rfl rfl (Elems.one rfl rfl (Elems.one rfl rfl (Elems.one rfl rfl (Elems.one rfl rfl (Elems.one rfl rfl (Elems.one rfl rfl (Elems.one rfl rfl (Elems.one rfl rfl Elems.nil)))))))))))) rfl rfl rfl (fun be w3 H3 k2 => ?_))
 refine Am ?_
 refine Qn (FW_cut (fun _ : Unit => [(0, I n), (5, .slice (some ⟨be, 0, none⟩) (exprTx.take (if num = true then 6 else 12)).length 12)]) (fun _ w' => Sep w noB [blk be (exprTx.flatMap textCells) 9] w') ?_ ?_)
 ·refine Sr (Mv ?_)
  refine Qn (Cd rfl (fun hc7 => ?_) (fun hc7 => ?_))
  ·have hnum : num = true := hc7
   refine FW_region (Mv ?_)
   refine Vv (Gives.sliceTo (h := 6) rfl rfl (by decide)) (Am ?_)
   refine FL_nil ?_
   exact Qcut_normal () ⟨rfl, by rw [hnum]; rfl, trivial⟩ H3
  have hnum : num = false := hc7
  refine FW_skip ?_
  exact Qcut_normal () ⟨rfl, by rw [hnum]; rfl, trivial⟩ H3
 intro _ τ w16 H16
 obtain ⟨m, hm⟩ : ∃ m : Nat, m = if num = true then 6 else 12 := ⟨_, rfl⟩
 have hm12 : m = 6 ∨ m = 12 := by rw [hm]; cases num <;> simp
 rw [← hm]
 have hml : (exprTx.take m).length = m := by rw [List.length_take]; show Min.min m 12 = m; omega
 have hm0 := Int.emod_nonneg n (show (m : Int) ≠ 0 by omega)
 have hm1 := Int.emod_lt_of_pos n (show 0 < (m : Int) by omega)
 obtain ⟨q, hq⟩ : ∃ q : Nat, n % m = q := ⟨(n % m).toNat, by omega⟩
 have hqm : q < m := by omega
 obtain ⟨y, hy⟩ := get_some (l := exprTx.take m) (i := q) (by omega)
 have hy2 : exprTx[q]? = some y := by rw [List.getElem?_take, if_pos hqm] at hy; exact hy
 have hpy := expr_at hy2
 have hyl := expr_tlen y (List.mem_append_left _ (List.mem_of_getElem? hy2))
 have hexp : exprP n num = exprL.getD q [] := by
  unfold exprP
  rw [show ((if num = true then 6 else 12 : Int)) = (m : Int) by rw [hm]; cases num <;> rfl, hq]; rfl
 have hRb : Rd w16 (some ⟨be, 0, none⟩) textCells 1 (exprTx.take m) := (show Rd _ (some ⟨be, 0, none⟩) textCells 1 exprTx from Sep.blkRow H16 At0 rfl).cut m
 simp only [upds, like, upd_ds, und_ds]
 refine Sr (Mv ?_)
 refine Mv ?_
 refine Mv ?_
 refine Vs ?_
 rw [hml]
 refine FL_callQ H16 (bring_ok (k := n) (m := m) (by omega) (by omega)) (h := fun w22 H22 kq => ?_)
 rw [hq]
 refine Vv (Gives.idxN (l := exprTx.take m) (enc := textCells) hml.symm rfl rfl hRb (by omega)) (Vv (Gives.loadW (f := 0) rfl (hRb.keep kq) hy rfl) ?_)
 refine FL_callN H22 (parseE_ok y (.inl (by omega)) (by omega) (hT.keep H22.kept)) (h := fun x w26 _ H26 k25 => ?_)
 rw [hpy, ← hexp] at H26 ⊢
 dsimp only at H26 ⊢
 refine Mv ?_
 refine Vx ?_
 refine Vx ?_
 refine Am ?_
 refine Am ?_
 refine Nx (Mv ?_)
 refine Am ?_
 refine Qn (FW_ret (Qfn_ret (hR := ?_)))
 exact ⟨_, rfl, trivial, H26.first.turn⟩
theorem columnsP_ok (b : Bool) : Rets Tryz.prog 23 [.bool b] w fun v w' => ∃ x, v = x ∧ True ∧ Turn noB (rowD 49 7 colCells x (colsP b)) w w' := by
 have H := Sep.start0 w
 refine rets1 Tryz.func23 rfl rfl rfl rfl ?_
 refine Sr (Am ?_)
 refine Nx (Am ?_)
 refine Qn (FW_cut (fun _ : Unit => [(3, I (if b then 3 else 2))]) (fun _ w' => Sep w noB [] w') ?_ ?_)
 ·refine Sr (Mv ?_)
  refine Qn (Cd rfl (fun hc5 => ?_) (fun hc5 => ?_))
  ·subst hc5
   refine FW_region (Am ?_)
   refine FL_nil ?_
   exact Qcut_normal () ⟨rfl, trivial⟩ H
  subst hc5
  refine FW_skip ?_
  exact Qcut_normal () ⟨rfl, trivial⟩ H
 intro _ τ w12 H12
 obtain ⟨kk, hkk⟩ : ∃ kk : Int, kk = if b then 3 else 2 := ⟨_, rfl⟩
 rw [← hkk]
 have hcp : colsP b = [⟨1, [97], ⟨kk, false⟩, cell0⟩, ⟨3, [98], ⟨kk, true⟩, cell0⟩, ⟨4, [99], ⟨1, true⟩, cell0⟩, ⟨9, [100], ⟨4, false⟩, cell0⟩, ⟨12, [101], ⟨5, true⟩, cell0⟩] := by rw [hkk]; rfl
 simp only [upds, like, upd_ds, und_ds]
 refine Sr (Mv ?_)
 refine Vv (Gives.build (out := typeCells ⟨kk, false⟩) (Fills.one rfl rfl rfl (by simp) rfl Fills.nil)) (Vv (Gives.build (out := colCells ⟨1, [97], ⟨kk, false⟩, cell0⟩) (Fills.one rfl rfl rfl (by simp) rfl (Fills.one rfl rfl rfl (by simp) rfl (Fills.many rfl rfl (Nat.le_of_ble_eq_true rfl) rfl Fills.nil)))) ?_)
 refine Mv ?_
 refine Vv (Gives.build (out := typeCells ⟨kk, true⟩) (Fills.one rfl rfl rfl (by simp) rfl (Fills.one rfl rfl rfl (by simp) rfl Fills.nil))) (Vv (Gives.build (out := colCells ⟨3, [98], ⟨kk, true⟩, cell0⟩) (Fills.one rfl rfl rfl (by simp) rfl (Fills.one rfl rfl rfl (by simp) rfl (Fills.many rfl rfl (Nat.le_of_ble_eq_true rfl) rfl Fills.nil)))) ?_)
 refine Vv (Gives.build (out := typeCells ⟨1, true⟩) (Fills.one rfl rfl rfl (by simp) rfl (Fills.one rfl rfl rfl (by simp) rfl Fills.nil))) (Vv (Gives.build (out := colCells ⟨4, [99], ⟨1, true⟩, cell0⟩) (Fills.one rfl rfl rfl (by simp) rfl (Fills.one rfl rfl rfl (by simp) rfl (Fills.many rfl rfl (Nat.le_of_ble_eq_true rfl) rfl Fills.nil)))) ?_)
 refine Vv (Gives.build (out := typeCells ⟨4, false⟩) (Fills.one rfl rfl rfl (by simp) rfl Fills.nil)) (Vv (Gives.build (out := colCells ⟨9, [100], ⟨4, false⟩, cell0⟩) (Fills.one rfl rfl rfl (by simp) rfl (Fills.one rfl rfl rfl (by simp) rfl (Fills.many rfl rfl (Nat.le_of_ble_eq_true rfl) rfl Fills.nil)))) ?_)
 refine Vv (Gives.build (out := typeCells ⟨5, true⟩) (Fills.one rfl rfl rfl (by simp) rfl (Fills.one rfl rfl rfl (by simp) rfl Fills.nil))) (Vv (Gives.build (out := colCells ⟨12, [101], ⟨5, true⟩, cell0⟩) (Fills.one rfl rfl rfl (by simp) rfl (Fills.one rfl rfl rfl (by simp) rfl (Fills.many rfl rfl (Nat.le_of_ble_eq_true rfl) rfl Fills.nil)))) ?_)
 refine FL_buildSlice H12 (xs := [.tmp 7, .tmp 10, .tmp 12, .tmp 14, .tmp 16]) (out := (colsP b).flatMap colCells) (by rw [hcp]; exact Elems.many rfl rfl (Elems.many rfl rfl (Elems.many rfl rfl (Elems.many rfl rfl (Elems.many rfl rfl Elems.nil))))) rfl rfl rfl (fun bs w26 H26 k25 => ?_)
 have H26 : Mw.Sep w noB (rowD 49 7 colCells (.slice (some ⟨bs, 0, none⟩) 5 5) (colsP b) :: _) w26 := Sep.asRow H26 At0 (n := 5) (by rw [hcp]; rfl) (by decide)
 refine Am ?_
 refine Qn (FW_ret (Qfn_ret (hR := ?_)))
 exact ⟨_, rfl, trivial, H26.first.turn⟩
end
def ownH (x : Value × Value × List (List UInt8 × Value)) (p : PlanM) : HP := starL [seeH x.1 stepCells 3 p.wh, rowD 53 2 outCells x.2.1 x.2.2, rawsH x.2.2 p.cols]
theorem wrap_quo4 {g : Int} (h : fits g) : IntKind.wrap .i64 (g.tdiv 4) = g.tdiv 4 := wrap64 (by
 unfold fits at h
 by_cases h0 : 0 ≤ g
 ·rw [Int.tdiv_eq_ediv_of_nonneg h0]; omega
 have e : g.tdiv 4 = -((-g).tdiv 4) := by rw [Int.neg_tdiv, Int.neg_neg]
 rw [e, Int.tdiv_eq_ediv_of_nonneg (by omega)]; omega)
theorem abc_at : ∀ i : Fin 16, (([97, 98, 99, 100, 101, 102, 103, 104, 105, 106, 107, 108, 109, 110, 111, 112] : List UInt8).take (i.val + 1)).drop i.val = [UInt8.ofNat (97 + i.val)] := by decide
theorem nameP_len : ∀ y ∈ nameP, y.length ≤ 10 := by decide
section
variable {w : World}
theorem made_ok {l : List (Int × Int)} {vl : Value} {wh group : Int} (hl : RowIn w vl pairCells 2 l) (hg : fits group) (hT : TabsX w) : Rets Tryz.prog 19 [I wh, vl, I group] w fun v w' => ∃ x : Value × Value × List (List UInt8 × Value), v = agg [x.1, x.2.1, I (madeP wh l group).group] ∧ True ∧ Turn noB (ownH x (madeP wh l group)) w w' := by
 obtain ⟨A, m, rfl, ⟨hm, hm'⟩, hA⟩ := hl
 have H := Sep.start0 w
 obtain ⟨hp1, hp16⟩ := pairs_len l
 refine retsC3 Tryz.func19 rfl rfl rfl rfl ?_
 refine Sr (FL_alloc H (h := fun b6 w2 H2 k1 => ?_))
 refine Nx (Vv (Gives.build (out := [.slice none 0 0, .slice none 0 0, I (-1)]) (Fills.one rfl rfl rfl (by simp) rfl Fills.nil)) (FL_alloc H2 (h := fun b7 w5 H5 k4 => ?_)))
 refine FL_storeAll H5 (h := fun w7 H7 => ?_)
 refine Qn (FW_cut (fun z : Option Addr × Nat => [(1, .slice A l.length m), (2, I group), (6, selfP b6), (7, selfP b7)]) (fun z w' => Sep w noB [blk b7 [.slice z.1 (whereP wh).length z.2, .slice none 0 0, I (-1)] 25, seeH (.slice z.1 (whereP wh).length z.2) stepCells 3 (whereP wh), blk b6 [.slice none 0 0, .slice none 0 0, I 0] 25] w') ?_ ?_)
 ·refine Sr (Mv ?_)
  refine FL_callQ H7 (bring_ok (k := wh) (m := 4) (by decide) (by decide)) (h := fun w11 H11 k10 => ?_)
  obtain ⟨q, hq⟩ : ∃ q : Nat, wh % 4 = q := ⟨(wh % 4).toNat, by omega⟩
  have hq4 : q < 4 := by omega
  rw [hq]
  refine Am ?_
  refine Nx (Mv ?_)
  refine Vg ?_
  refine Qn (Cp rfl (fun hc15 => ?_) (fun hc15 => ?_))
  ·obtain ⟨y, hy⟩ := get_some (l := whereTx) (i := q) (show q < 4 by omega)
   have hpy := where_at hy
   have hyl := expr_tlen y (List.mem_append_right _ (List.mem_of_getElem? hy))
   have hwp : whereP wh = whereE.getD q [] := by unfold whereP; rw [hq]; rfl
   refine FW_region (FL_buildSlice H11 (xs := [_, _, _, _]) (out := whereTx.flatMap textCells) (Elems.one rfl rfl (Elems.one rfl rfl (Elems.one rfl rfl (Elems.one rfl rfl Elems.nil)))) rfl rfl rfl (fun bw w18 H18 k17 => ?_))
   refine Mv ?_
   refine Vv (Gives.idxR (l := whereTx) (enc := textCells) rfl rfl (show Rd _ (some ⟨bw, 0, none⟩) textCells 1 whereTx from Sep.blkRow H18 At0 rfl) hq4) (Vv (Gives.loadW (f := 0) rfl (show Rd _ (some ⟨bw, 0, none⟩) textCells 1 whereTx from Sep.blkRow H18 At0 rfl) hy rfl) ?_)
   refine FL_callN H18 (parseE_ok y (.inl (by omega)) (by omega) (hT.keep H18.kept)) (h := fun x w23 _ H23 k22 => ?_)
   rw [hpy, ← hwp] at H23 ⊢
   dsimp only at H23 ⊢
   obtain ⟨Aw, cw, rfl, _, _⟩ := Sep.formD H23 At0
   refine Mv ?_
   refine Vx ?_
   refine Vx ?_
   refine Vf ?_
   refine FL_store H23 (h := fun w29 H29 => ?_)
   refine FL_nil ?_
   exact Qcut_normal (Aw, cw) ⟨rfl, rfl, rfl, rfl, trivial⟩ (Sep_seeRow H29 At0).front1.drop0.front1
  have hwp : whereP wh = [] := by unfold whereP; rw [hq, show q = 0 by omega]; rfl
  refine FW_skip ?_
  exact Qcut_normal (none, 0) ⟨rfl, rfl, rfl, rfl, trivial⟩ (by
  dsimp only
  rw [hwp]
  exact (Sep.lookNew H11 (X := fun w => RowIn w (.slice none 0 0) stepCells 3 []) fun _ => rowIn_none).front1)
 rintro ⟨Aw, cw⟩ τ w34 H34
 dsimp only at H34
 simp only [upds, like, upd_ds, und_ds]
 refine FW_cut (fun z : Option Addr × Nat × HP => [(1, .slice z.1 (if l = [] then [(0, 0)] else l).length z.2.1), (2, I group), (6, selfP b6), (7, selfP b7)]) (fun z w' => ((if l = [] then [(0, 0)] else l).length ≤ z.2.1 ∧ ∀ rs w'', Sep w noB (z.2.2 :: rs) w'' → Rd w'' z.1 pairCells 2 (if l = [] then [(0, 0)] else l)) ∧ Sep w noB [z.2.2, blk b7 [.slice Aw (whereP wh).length cw, .slice none 0 0, I (-1)] 25, seeH (.slice Aw (whereP wh).length cw) stepCells 3 (whereP wh), blk b6 [.slice none 0 0, .slice none 0 0, I 0] 25] w') ?_ ?_
 ·refine Sr (Mv ?_)
  refine Vs ?_
  refine Ve ?_
  refine Qn (Cp rfl (fun hc39 => ?_) (fun hc39 => ?_))
  ·have he : l = [] := List.eq_nil_of_length_eq_zero (by omega)
   refine FW_region (Vv (Gives.buildArr (zs := [I 0, I 0]) (out := [I 0, I 0]) rfl (Fills.one rfl rfl rfl (by simp) rfl (Fills.one rfl rfl rfl (by simp) rfl Fills.nil))) (FL_buildSlice H34 (xs := [.tmp 28]) (out := [((0, 0) : Int × Int)].flatMap pairCells) (Elems.many rfl rfl Elems.nil) rfl rfl rfl (fun bz w43 H43 k42 => ?_)))
   refine Am ?_
   refine FL_nil ?_
   exact Qcut_normal (some ⟨bz, 0, none⟩, 1, _) ⟨by rw [if_pos he]; rfl, rfl, rfl, rfl, trivial⟩ ⟨⟨by rw [if_pos he]; exact Nat.le_refl _, fun rs w'' h => by rw [if_pos he]; exact Sep.blkRow h At0 rfl⟩, H43⟩
  have he : ¬ l = [] := fun e => hc39 (by rw [e]; rfl)
  refine FW_skip ?_
  exact Qcut_normal (A, m, pureH True) ⟨by rw [if_neg he]; rfl, rfl, rfl, rfl, trivial⟩ ⟨⟨by rw [if_neg he]; exact hm, fun rs w'' h => by rw [if_neg he]; exact hA.keep h.kept⟩, Sep.addPure trivial H34⟩
 rintro ⟨Ap, cp, hpp⟩ τ w49 ⟨⟨hle, hread⟩, H49⟩
 dsimp only at hle hread H49
 obtain ⟨L, hL⟩ : ∃ L, L = if l = [] then [(0, 0)] else l := ⟨_, rfl⟩
 rw [← hL] at hle hread ⊢
 have hps : pairsP l = L.take 16 := by rw [hL]; rfl
 obtain ⟨ps, hpse⟩ : ∃ ps, ps = pairsP l := ⟨_, rfl⟩
 rw [← hpse] at hp1 hp16 hps
 have hmin : Min.min ((L.length : Nat) : Int) 16 = ((ps.length : Nat) : Int) := by rw [hps, List.length_take]; omega
 have hpl : ps.length ≤ L.length := by rw [hps, List.length_take]; omega
 have hrd : ∀ {rs w''}, Sep w noB (hpp :: rs) w'' → Rd w'' Ap pairCells 2 ps := fun h => by rw [hps]; exact (hread _ _ h).cut 16
 simp only [upds, like, upd_ds]
 refine Sr (Mv ?_)
 refine Mv ?_
 refine Vs ?_
 refine Vv (Gives.minE rfl rfl hmin) (Vv (Gives.sliceTo (h := ps.length) rfl rfl (by omega)) ?_)
 refine Am ?_
 refine Qn (FW_cut (fun _ : Unit => [(1, .slice Ap ps.length cp), (6, selfP b6), (7, selfP b7)]) (fun _ w' => Sep w noB [hpp, blk b7 [.slice Aw (whereP wh).length cw, .slice none 0 0, I (groupP group ps.length)] 25, seeH (.slice Aw (whereP wh).length cw) stepCells 3 (whereP wh), blk b6 [.slice none 0 0, .slice none 0 0, I 0] 25] w') ?_ ?_)
 ·refine Sr (Mv ?_)
  refine FL_callQ H49 (bring_ok (k := group) (m := 4) (by decide) (by decide)) (h := fun w59 H59 k58 => ?_)
  obtain ⟨gq, hgq⟩ : ∃ gq : Nat, group % 4 = gq := ⟨(group % 4).toNat, by omega⟩
  rw [hgq]
  refine Vg ?_
  refine Qn (Cp rfl (fun hc61 => ?_) (fun hc61 => ?_))
  ·have hgp : groupP group ps.length = (group.tdiv 4) % ((ps.length + 1 : Nat) : Int) := by unfold groupP; rw [if_pos (by omega)]
   refine FW_region (Mv ?_)
   refine Vv (Gives.quo rfl rfl (by decide)) ?_
   rw [wrap_quo4 hg]
   refine Mv ?_
   refine Vs ?_
   refine Vv (Gives.addI (c := ((ps.length + 1 : Nat) : Int)) rfl rfl (by omega) (by omega)) (FL_callQ H59 (bring_ok (k := group.tdiv 4) (m := ((ps.length + 1 : Nat) : Int)) (by omega) (by omega)) (h := fun w69 H69 k68 => ?_))
   rw [← hgp]
   refine Vf ?_
   refine FL_store H69 (h := fun w72 H72 => ?_)
   refine FL_nil ?_
   exact Qcut_normal () ⟨rfl, rfl, rfl, trivial⟩ H72
  have hgp : groupP group ps.length = -1 := by unfold groupP; rw [if_neg (by omega)]
  refine FW_skip ?_
  exact Qcut_normal () ⟨rfl, rfl, rfl, trivial⟩ (by rw [hgp]; exact H59)
 intro _ τ w77 H77
 obtain ⟨g, hge⟩ : ∃ g, g = groupP group ps.length := ⟨_, rfl⟩
 rw [← hge] at H77
 simp only [upds, like, upd_ds]
 refine FW_seq (Sr (Am ?_))
 refine Qn (FW_block ?_)
 have H80 : Mw.Sep w noB [hpp, blk b7 [.slice Aw (whereP wh).length cw, .slice none 0 0, I g] 25, seeH (.slice Aw (whereP wh).length cw) stepCells 3 (whereP wh), rowD 53 2 outCells (.slice none 0 0) [], rawsH [] [], blk b6 [.slice none 0 0, .slice none 0 0, I 0] 25] w77 := by
  have h1 := Sep_rawNil (Sep.nilD H77 53 2 outCells)
  exact ((h1.front1).front4.front4).front4
 refine FW_loop' (fun x : Nat × (Option Addr × Nat) × List (List UInt8 × Value) => [(1, .slice Ap ps.length cp), (6, selfP b6), (7, selfP b7), (9, I x.1)]) (fun x w' => (x.1 ≤ ps.length ∧ x.2.2.length = x.1) ∧ Sep w noB [hpp, blk b7 [.slice Aw (whereP wh).length cw, .slice x.2.1.1 x.2.2.length x.2.1.2, I g] 25, seeH (.slice Aw (whereP wh).length cw) stepCells 3 (whereP wh), rowD 53 2 outCells (.slice x.2.1.1 x.2.2.length x.2.1.2) x.2.2, rawsH x.2.2 ((List.range x.1).map (colOf g ps)), blk b6 [.slice none 0 0, .slice none 0 0, I 0] 25] w') (fun x _ => ps.length - x.1) (0, (none, 0), []) ⟨rfl, rfl, rfl, rfl, trivial⟩ ⟨⟨Nat.zero_le _, rfl⟩, H80⟩ (fun x τ w80 hI => ?_)
 obtain ⟨i, ⟨Ac, cc⟩, r⟩ := x
 obtain ⟨⟨hi, hrl⟩, H80⟩ := hI
 dsimp only at hi hrl H80
 try simp only [upds, like, upd_ds]
 refine FW_seq (Sr (Mv ?_))
 refine Mv ?_
 refine Vs ?_
 refine Vl ?_
 refine Qn (Cp rfl (fun hc85 => ?_) (fun hc85 => ?_))
 ·have hlt : i < ps.length := by omega
  obtain ⟨y, hy⟩ := get_some hlt
  have hpd : ps.getD i (0, 0) = y := getD_of hy
  obtain ⟨q2, hq2⟩ : ∃ q : Nat, y.1 % 4 = q := ⟨(y.1 % 4).toNat, by omega⟩
  have hq24 : q2 < nameP.length := by show q2 < 4; omega
  obtain ⟨nm, hnm⟩ := get_some hq24
  have hnl := nameP_len nm (List.mem_of_getElem? hnm)
  have habc := abc_at ⟨i, by omega⟩
  dsimp only at habc
  have hcol : colOf g ps i = ⟨nm ++ [UInt8.ofNat (97 + i)], exprP y.2 (decide (0 ≤ g ∧ g ≤ i))⟩ := by
   unfold colOf
   rw [hpd, hq2, Int.toNat_natCast, getD_of hnm]
  refine Sk (FW_seq (FW_block (FW_seq (FW_drawS rfl H80 (h := fun hok87 w89 H89 => ?_)))))
  refine Gm hok87 1 ?_
  refine Gm hok87 2 ?_
  refine Gp hok87 3 rfl rfl (fun _ => (Gives.idxR (l := ps) (enc := pairCells) rfl rfl (by first | exact hrd H89 | exact hrd H89.front1) hlt)) ?_
  refine Gp hok87 4 rfl rfl (fun _ => (Gives.idxArrR (i := 0) rfl rfl (by first | exact hrd H89 | exact hrd H89.front1) (by omega) (by decide))) ?_
  refine Gl hok87 5 rfl rfl (Gives.loadW (i := i) (f := 0) (c := y) rfl (by first | exact hrd H89 | exact hrd H89.front1) hy rfl) ?_
  refine Gm hok87 9 ?_
  refine Gm hok87 10 ?_
  refine Gp hok87 11 rfl rfl (fun _ => (Gives.addI (c := ((i + 1 : Nat) : Int)) rfl rfl (by omega) (by omega))) (Gp hok87 12 rfl rfl (fun _ => (Gives.sliceBothT (l := [97, 98, 99, 100, 101, 102, 103, 104, 105, 106, 107, 108, 109, 110, 111, 112]) (i := i) (m := i + 1) rfl rfl rfl (by omega) (by show i + 1 ≤ 16; omega))) ?_)
  rw [habc]
  refine FG_two hok87 (e1 := 0) (e2 := 6) (by kernel_rfl) ?_ ?_
  ·refine step_buildSlice hok87 0 [(12, true), (11, true), (10, true), (9, true), (5, false), (4, true), (3, true), (2, true), (1, true)] H89 (xs := [_, _, _, _]) (out := nameP.flatMap textCells) (Elems.one rfl rfl (Elems.one rfl rfl (Elems.one rfl rfl (Elems.one rfl rfl Elems.nil)))) (h := fun bn w96 H96 => ⟨Stab_pure (Stab_pure (Stab_pure (Stab_pure ((Stab_cons rfl (by kernel_rfl) (Gives.loadW (i := i) (f := 0) (c := y) rfl (by first | exact hrd H96 | exact hrd H96.front1) hy rfl) rfl (Stab_pure (Stab_pure (Stab_pure (Stab_pure (Stab_nil)))))))))), ?_⟩)
   refine FGcallQ hok87 6 [(12, true), (11, true), (10, true), (9, true)] H96 (bring_ok (k := y.1) (m := 4) (by decide) (by decide)) (h := fun w98 H98 k97 => ?_)
   rw [hq2]
   refine ⟨Stab_pure (Stab_pure (Stab_pure (Stab_pure (Stab_nil)))), ?_⟩
   refine Gp hok87 7 rfl rfl (fun _ => (Gives.idxR (l := nameP) (enc := textCells) rfl rfl (show Rd _ (some ⟨bn, 0, none⟩) textCells 1 nameP from Sep.blkRow H98 At0 rfl) hq24)) (Gl hok87 8 rfl rfl (Gives.loadW (f := 0) rfl (show Rd _ (some ⟨bn, 0, none⟩) textCells 1 nameP from Sep.blkRow H98 At0 rfl) hnm rfl) ?_)
   refine Gp hok87 13 rfl rfl (fun _ => (Gives.catT rfl rfl (by first | omega | (simp; done) | (simp; omega)))) ?_
   refine Gp hok87 14 rfl rfl (fun _ => Gives.assign rfl) (FG_end hok87 (by kernel_rfl) ?_)
   refine Qseq_normal (FW_drawS rfl H98 (h := fun hok103 w105 H105 => ?_))
   refine Gp hok103 0 rfl rfl (fun _ => (Gives.field0 rfl)) (FGload hok103 1 H105 (h := ?_))
   refine Gm hok103 2 ?_
   refine Gm hok103 3 ?_
   refine Gm hok103 4 ?_
   refine Gp hok103 5 rfl rfl (fun _ => (Gives.idxR (l := ps) (enc := pairCells) rfl rfl (hrd H105.front1) hlt)) (Gp hok103 6 rfl rfl (fun _ => (Gives.idxArrR (i := 1) rfl rfl (hrd H105.front1) (by omega) (by decide))) ?_)
   refine Gl hok103 7 rfl rfl (Gives.loadW (i := i) (f := 1) (c := y) rfl (hrd H105.front1) hy rfl) (Gp hok103 8 rfl rfl (fun _ => (Gives.field0 rfl)) ?_)
   refine FGload hok103 9 H105 (h := ?_)
   refine Gp hok103 10 rfl rfl (fun _ => (Gives.geq rfl rfl)) (Gm hok103 11 ?_)
   refine FG_splitP (t := 76) rfl (fun hs114 => ?_) (fun hs114 => ?_)
   ·have hce : exprP y.2 (decide (g ≤ i)) = exprP y.2 (decide (0 ≤ g ∧ g ≤ i)) := by rw [show decide (g ≤ (i : Int)) = decide (0 ≤ g ∧ g ≤ i) from decide_eq_decide.2 ⟨fun h => ⟨by omega, h⟩, fun h => h.2⟩]
    refine Gm hok103 12 ?_
    refine Gp hok103 13 rfl rfl (fun _ => (Gives.field0 rfl)) (FGload hok103 14 H105 (h := ?_))
    refine Gp hok103 15 rfl rfl (fun _ => (Gives.geq rfl rfl)) (Gp hok103 16 rfl rfl (fun _ => Gives.pickT rfl rfl) ?_)
    refine FGcallN hok103 17 [(2, true), (1, false), (0, true)] H105 (expressionP_ok y.2 (decide (g ≤ i)) (hT.keep H105.kept)) (h := fun vx w121 _ H121 k120 => ?_)
    rw [hce] at H121
    obtain ⟨es, hes⟩ : ∃ es, es = exprP y.2 (decide (0 ≤ g ∧ g ≤ i)) := ⟨_, rfl⟩
    rw [← hes] at H121
    obtain ⟨Ax, cx, rfl, _, _⟩ := Sep.formD H121 At0
    refine ⟨Stab_pure (Stab_load H121 (h := Stab_pure (Stab_nil))), ?_⟩
    refine Gp hok103 18 rfl rfl (fun _ => (Gives.build (out := outCells (nm ++ [UInt8.ofNat (97 + i)], .slice Ax es.length cx)) (Fills.one rfl rfl rfl (by simp) rfl (Fills.one rfl rfl rfl (by simp) rfl Fills.nil)))) (FGbuildSlice hok103 19 [(1, false), (0, true)] H121 (xs := [.tmp 83]) (out := [(nm ++ [UInt8.ofNat (97 + i)], Value.slice Ax es.length cx)].flatMap outCells) (Elems.many rfl rfl Elems.nil) (h := fun bs w124 H124 => ⟨Stab_load H124 (h := Stab_pure (Stab_nil)), ?_⟩))
    refine FGappendD hok103 20 [] H124 (news := [(nm ++ [UInt8.ofNat (97 + i)], Value.slice Ax es.length cx)]) At5 (by unfold maxLen; simp; omega) (by simp; omega) (outs_one rfl) (h := fun v2 w126 H126 => ?_)
    obtain ⟨A2, c2, rfl, hc2, hA2⟩ := Sep.formD H126 At5
    refine ⟨Stab_nil, ?_⟩
    refine Gp hok103 21 rfl rfl (fun _ => (Gives.field0 rfl)) (FGstore hok103 22 [] H126 (h := fun w129 H129 => ⟨Stab_nil, ?_⟩))
    refine FG_end hok103 (by kernel_rfl) ?_
    refine Qblk_normal (Qseq_normal (FW_region (Mv ?_)))
    refine Vv (Gives.addI rfl rfl rfl (by omega)) (Am ?_)
    refine FL_nil ?_
    exact Qround_normal (i + 1, (A2, c2), r ++ [(nm ++ [UInt8.ofNat (97 + i)], Value.slice Ax es.length cx)]) ⟨rfl, rfl, rfl, rfl, trivial⟩ ⟨⟨by dsimp only; omega, by dsimp only; rw [List.length_append, List.length_singleton, hrl]⟩, by
    dsimp only
    rw [List.range_succ, List.map_append, List.map_cons, List.map_nil, hcol, ← hes]
    exact (((((Sep_rawPush (n := nm ++ [UInt8.ofNat (97 + i)]) (H129.front6.front1)).front1.drop0).front4).front4).front4).front4⟩ (by dsimp only; omega)
   have hce : exprP y.2 false = exprP y.2 (decide (0 ≤ g ∧ g ≤ i)) := by rw [decide_eq_false (show ¬ (0 ≤ g ∧ g ≤ i) by omega)]
   refine FGoff hok103 12 rfl rfl (by kernel_rfl) ?_
   refine FGoff hok103 13 rfl rfl (by kernel_rfl) ?_
   refine FGoff hok103 14 rfl rfl (by kernel_rfl) ?_
   refine FGoff hok103 15 rfl rfl (by kernel_rfl) ?_
   refine Gp hok103 16 rfl rfl (fun _ => Gives.pickF rfl rfl) (FGcallN hok103 17 [(2, true), (1, false), (0, true)] H105 (expressionP_ok y.2 false (hT.keep H105.kept)) (h := fun vx w137 _ H137 k136 => ?_))
   rw [hce] at H137
   obtain ⟨es, hes⟩ : ∃ es, es = exprP y.2 (decide (0 ≤ g ∧ g ≤ i)) := ⟨_, rfl⟩
   rw [← hes] at H137
   obtain ⟨Ax, cx, rfl, _, _⟩ := Sep.formD H137 At0
   refine ⟨Stab_pure (Stab_load H137 (h := Stab_pure (Stab_nil))), ?_⟩
   refine Gp hok103 18 rfl rfl (fun _ => (Gives.build (out := outCells (nm ++ [UInt8.ofNat (97 + i)], .slice Ax es.length cx)) (Fills.one rfl rfl rfl (by simp) rfl (Fills.one rfl rfl rfl (by simp) rfl Fills.nil)))) (FGbuildSlice hok103 19 [(1, false), (0, true)] H137 (xs := [.tmp 83]) (out := [(nm ++ [UInt8.ofNat (97 + i)], Value.slice Ax es.length cx)].flatMap outCells) (Elems.many rfl rfl Elems.nil) (h := fun bs w140 H140 => ⟨Stab_load H140 (h := Stab_pure (Stab_nil)), ?_⟩))
   refine FGappendD hok103 20 [] H140 (news := [(nm ++ [UInt8.ofNat (97 + i)], Value.slice Ax es.length cx)]) At5 (by unfold maxLen; simp; omega) (by simp; omega) (outs_one rfl) (h := fun v2 w142 H142 => ?_)
   obtain ⟨A2, c2, rfl, hc2, hA2⟩ := Sep.formD H142 At5
   refine ⟨Stab_nil, ?_⟩
   refine Gp hok103 21 rfl rfl (fun _ => (Gives.field0 rfl)) (FGstore hok103 22 [] H142 (h := fun w145 H145 => ⟨Stab_nil, ?_⟩))
   refine FG_end hok103 (by kernel_rfl) ?_
   refine Qblk_normal (Qseq_normal (FW_region (Mv ?_)))
   refine Vv (Gives.addI rfl rfl rfl (by omega)) (Am ?_)
   refine FL_nil ?_
   exact Qround_normal (i + 1, (A2, c2), r ++ [(nm ++ [UInt8.ofNat (97 + i)], Value.slice Ax es.length cx)]) ⟨rfl, rfl, rfl, rfl, trivial⟩ ⟨⟨by dsimp only; omega, by dsimp only; rw [List.length_append, List.length_singleton, hrl]⟩, by
   dsimp only
   rw [List.range_succ, List.map_append, List.map_cons, List.map_nil, hcol, ← hes]
   exact (((((Sep_rawPush (n := nm ++ [UInt8.ofNat (97 + i)]) (H145.front6.front1)).front1.drop0).front4).front4).front4).front4⟩ (by dsimp only; omega)
  refine step_callQ hok87 6 [(12, true), (11, true), (10, true), (9, true)] H89 (bring_ok (k := y.1) (m := 4) (by decide) (by decide)) (h := fun w151 H151 k150 => ?_)
  rw [hq2]
  refine ⟨Stab_pure (Stab_pure (Stab_pure (Stab_pure (Stab_nil)))), ?_⟩
  refine FGbuildSlice hok87 0 [(12, true), (11, true), (10, true), (9, true)] H151 (xs := [_, _, _, _]) (out := nameP.flatMap textCells) (Elems.one rfl rfl (Elems.one rfl rfl (Elems.one rfl rfl (Elems.one rfl rfl Elems.nil)))) (h := fun bn w153 H153 => ⟨Stab_pure (Stab_pure (Stab_pure (Stab_pure (Stab_nil)))), ?_⟩)
  refine Gp hok87 7 rfl rfl (fun _ => (Gives.idxR (l := nameP) (enc := textCells) rfl rfl (show Rd _ (some ⟨bn, 0, none⟩) textCells 1 nameP from Sep.blkRow H153 At0 rfl) hq24)) (Gl hok87 8 rfl rfl (Gives.loadW (f := 0) rfl (show Rd _ (some ⟨bn, 0, none⟩) textCells 1 nameP from Sep.blkRow H153 At0 rfl) hnm rfl) ?_)
  refine Gp hok87 13 rfl rfl (fun _ => (Gives.catT rfl rfl (by first | omega | (simp; done) | (simp; omega)))) ?_
  refine Gp hok87 14 rfl rfl (fun _ => Gives.assign rfl) (FG_end hok87 (by kernel_rfl) ?_)
  refine Qseq_normal (FW_drawS rfl H153 (h := fun hok158 w160 H160 => ?_))
  refine Gp hok158 0 rfl rfl (fun _ => (Gives.field0 rfl)) (FGload hok158 1 H160 (h := ?_))
  refine Gm hok158 2 ?_
  refine Gm hok158 3 ?_
  refine Gm hok158 4 ?_
  refine Gp hok158 5 rfl rfl (fun _ => (Gives.idxR (l := ps) (enc := pairCells) rfl rfl (hrd H160.front1) hlt)) (Gp hok158 6 rfl rfl (fun _ => (Gives.idxArrR (i := 1) rfl rfl (hrd H160.front1) (by omega) (by decide))) ?_)
  refine Gl hok158 7 rfl rfl (Gives.loadW (i := i) (f := 1) (c := y) rfl (hrd H160.front1) hy rfl) (Gp hok158 8 rfl rfl (fun _ => (Gives.field0 rfl)) ?_)
  refine FGload hok158 9 H160 (h := ?_)
  refine Gp hok158 10 rfl rfl (fun _ => (Gives.geq rfl rfl)) (Gm hok158 11 ?_)
  refine FG_splitP (t := 76) rfl (fun hs169 => ?_) (fun hs169 => ?_)
  ·have hce : exprP y.2 (decide (g ≤ i)) = exprP y.2 (decide (0 ≤ g ∧ g ≤ i)) := by rw [show decide (g ≤ (i : Int)) = decide (0 ≤ g ∧ g ≤ i) from decide_eq_decide.2 ⟨fun h => ⟨by omega, h⟩, fun h => h.2⟩]
   refine Gm hok158 12 ?_
   refine Gp hok158 13 rfl rfl (fun _ => (Gives.field0 rfl)) (FGload hok158 14 H160 (h := ?_))
   refine Gp hok158 15 rfl rfl (fun _ => (Gives.geq rfl rfl)) (Gp hok158 16 rfl rfl (fun _ => Gives.pickT rfl rfl) ?_)
   refine FGcallN hok158 17 [(2, true), (1, false), (0, true)] H160 (expressionP_ok y.2 (decide (g ≤ i)) (hT.keep H160.kept)) (h := fun vx w176 _ H176 k175 => ?_)
   rw [hce] at H176
   obtain ⟨es, hes⟩ : ∃ es, es = exprP y.2 (decide (0 ≤ g ∧ g ≤ i)) := ⟨_, rfl⟩
   rw [← hes] at H176
   obtain ⟨Ax, cx, rfl, _, _⟩ := Sep.formD H176 At0
   refine ⟨Stab_pure (Stab_load H176 (h := Stab_pure (Stab_nil))), ?_⟩
   refine Gp hok158 18 rfl rfl (fun _ => (Gives.build (out := outCells (nm ++ [UInt8.ofNat (97 + i)], .slice Ax es.length cx)) (Fills.one rfl rfl rfl (by simp) rfl (Fills.one rfl rfl rfl (by simp) rfl Fills.nil)))) (FGbuildSlice hok158 19 [(1, false), (0, true)] H176 (xs := [.tmp 83]) (out := [(nm ++ [UInt8.ofNat (97 + i)], Value.slice Ax es.length cx)].flatMap outCells) (Elems.many rfl rfl Elems.nil) (h := fun bs w179 H179 => ⟨Stab_load H179 (h := Stab_pure (Stab_nil)), ?_⟩))
   refine FGappendD hok158 20 [] H179 (news := [(nm ++ [UInt8.ofNat (97 + i)], Value.slice Ax es.length cx)]) At5 (by unfold maxLen; simp; omega) (by simp; omega) (outs_one rfl) (h := fun v2 w181 H181 => ?_)
   obtain ⟨A2, c2, rfl, hc2, hA2⟩ := Sep.formD H181 At5
   refine ⟨Stab_nil, ?_⟩
   refine Gp hok158 21 rfl rfl (fun _ => (Gives.field0 rfl)) (FGstore hok158 22 [] H181 (h := fun w184 H184 => ⟨Stab_nil, ?_⟩))
   refine FG_end hok158 (by kernel_rfl) ?_
   refine Qblk_normal (Qseq_normal (FW_region (Mv ?_)))
   refine Vv (Gives.addI rfl rfl rfl (by omega)) (Am ?_)
   refine FL_nil ?_
   exact Qround_normal (i + 1, (A2, c2), r ++ [(nm ++ [UInt8.ofNat (97 + i)], Value.slice Ax es.length cx)]) ⟨rfl, rfl, rfl, rfl, trivial⟩ ⟨⟨by dsimp only; omega, by dsimp only; rw [List.length_append, List.length_singleton, hrl]⟩, by
   dsimp only
   rw [List.range_succ, List.map_append, List.map_cons, List.map_nil, hcol, ← hes]
   exact (((((Sep_rawPush (n := nm ++ [UInt8.ofNat (97 + i)]) (H184.front6.front1)).front1.drop0).front4).front4).front4).front4⟩ (by dsimp only; omega)
  have hce : exprP y.2 false = exprP y.2 (decide (0 ≤ g ∧ g ≤ i)) := by rw [decide_eq_false (show ¬ (0 ≤ g ∧ g ≤ i) by omega)]
  refine FGoff hok158 12 rfl rfl (by kernel_rfl) ?_
  refine FGoff hok158 13 rfl rfl (by kernel_rfl) ?_
  refine FGoff hok158 14 rfl rfl (by kernel_rfl) ?_
  refine FGoff hok158 15 rfl rfl (by kernel_rfl) ?_
  refine Gp hok158 16 rfl rfl (fun _ => Gives.pickF rfl rfl) (FGcallN hok158 17 [(2, true), (1, false), (0, true)] H160 (expressionP_ok y.2 false (hT.keep H160.kept)) (h := fun vx w192 _ H192 k191 => ?_))
  rw [hce] at H192
  obtain ⟨es, hes⟩ : ∃ es, es = exprP y.2 (decide (0 ≤ g ∧ g ≤ i)) := ⟨_, rfl⟩
  rw [← hes] at H192
  obtain ⟨Ax, cx, rfl, _, _⟩ := Sep.formD H192 At0
  refine ⟨Stab_pure (Stab_load H192 (h := Stab_pure (Stab_nil))), ?_⟩
  refine Gp hok158 18 rfl rfl (fun _ => (Gives.build (out := outCells (nm ++ [UInt8.ofNat (97 + i)], .slice Ax es.length cx)) (Fills.one rfl rfl rfl (by simp) rfl (Fills.one rfl rfl rfl (by simp) rfl Fills.nil)))) (FGbuildSlice hok158 19 [(1, false), (0, true)] H192 (xs := [.tmp 83]) (out := [(nm ++ [UInt8.ofNat (97 + i)], Value.slice Ax es.length cx)].flatMap outCells) (Elems.many rfl rfl Elems.nil) (h := fun bs w195 H195 => ⟨Stab_load H195 (h := Stab_pure (Stab_nil)), ?_⟩))
  refine FGappendD hok158 20 [] H195 (news := [(nm ++ [UInt8.ofNat (97 + i)], Value.slice Ax es.length cx)]) At5 (by unfold maxLen; simp; omega) (by simp; omega) (outs_one rfl) (h := fun v2 w197 H197 => ?_)
  obtain ⟨A2, c2, rfl, hc2, hA2⟩ := Sep.formD H197 At5
  refine ⟨Stab_nil, ?_⟩
  refine Gp hok158 21 rfl rfl (fun _ => (Gives.field0 rfl)) (FGstore hok158 22 [] H197 (h := fun w200 H200 => ⟨Stab_nil, ?_⟩))
  refine FG_end hok158 (by kernel_rfl) ?_
  refine Qblk_normal (Qseq_normal (FW_region (Mv ?_)))
  refine Vv (Gives.addI rfl rfl rfl (by omega)) (Am ?_)
  refine FL_nil ?_
  exact Qround_normal (i + 1, (A2, c2), r ++ [(nm ++ [UInt8.ofNat (97 + i)], Value.slice Ax es.length cx)]) ⟨rfl, rfl, rfl, rfl, trivial⟩ ⟨⟨by dsimp only; omega, by dsimp only; rw [List.length_append, List.length_singleton, hrl]⟩, by
  dsimp only
  rw [List.range_succ, List.map_append, List.map_cons, List.map_nil, hcol, ← hes]
  exact (((((Sep_rawPush (n := nm ++ [UInt8.ofNat (97 + i)]) (H200.front6.front1)).front1.drop0).front4).front4).front4).front4⟩ (by dsimp only; omega)
 have hil : i = ps.length := by omega
 subst hil
 refine FW_exit (Qseq_exit (Qround_exit (Qblk_exit (Qseq_normal (Sr (FL_loadAll H80 (h := ?_)))))))
 refine FL_storeAll H80 (h := fun w208 H208 => ?_)
 refine Qn (FW_ret (QfnC_ret (h := ?_)))
 have hmade : madeP wh l group = ⟨whereP wh, (List.range ps.length).map (colOf g ps), g⟩ := by rw [hge, hpse]; rfl
 rw [hmade]
 exact ⟨_, resC1 H208, (_, _, r), rfl, trivial, (Sep.bundle (l := [_, _, _]) H208.drop0.drop0).first.turn⟩
end
theorem own_in {x : Value × Value × List (List UInt8 × Value)} {p : PlanM} {F : Nat → Prop} {w : World} (h : (ownH x p).ok F w) : PlanIn w (agg [x.1, x.2.1, I p.group]) p := by
 have H := Sep.parts (l := [seeH x.1 stepCells 3 p.wh, rowD 53 2 outCells x.2.1 x.2.2, rawsH x.2.2 p.cols]) (Sep.start1 h)
 exact ⟨x.1, x.2.1, rfl, Sep.sees H At0, x.2.2, Sep_in H At1, Sep.sees H At2⟩
section
variable {w : World}
theorem madePlan_ok {l : List (Int × Int)} {vl : Value} {wh group : Int} (hl : RowIn w vl pairCells 2 l) (hg : fits group) (hT : TabsX w) : Rets Tryz.prog 19 [I wh, vl, I group] w fun v w' => ∃ x, v = x ∧ True ∧ Turn noB (planH x (madeP wh l group)) w w' :=
 Calls.mono (made_ok hl hg hT) fun e w' he => by
  cases e with
  | returned v =>
   obtain ⟨x, rfl, _, hk, F', hq, hs⟩ := he
   exact ⟨_, rfl, trivial, hk, F', HP.look hq fun F w h => own_in h, hs⟩
  | _ => exact he.elim
end
end Go.Proofs.YtolaedhdjcnijaaGreatDoor
