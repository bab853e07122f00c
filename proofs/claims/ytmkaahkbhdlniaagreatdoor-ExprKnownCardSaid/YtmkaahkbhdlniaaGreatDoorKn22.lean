/-
 What a step makes of cells, walked.
-/
import Derived.Test.YtmkaahkbhdlniaaGreatDoorKn21
import Derived.Test.YtmkaahkbhdlniaaGreatDoorKn15
set_option linter.unusedVariables false
set_option linter.unusedSimpArgs false
namespace Go.Proofs.YtmkaahkbhdlniaaGreatDoor
open Go Go.Mw Go.Lib
set_option maxRecDepth 4000
attribute [local irreducible] flagC cmpC logicC
theorem reck_made {k : Int} {a b : CellM} (h7 : 7 ≤ k) (h18 : k ≤ 18) (h1 : ¬ (k = 13 ∨ k = 14 ∨ k = 15)) (h2 : ¬ k = 16) (h3 : ¬ k = 17) (h4 : ¬ (a.null = true ∨ b.null = true)) (h5 : ¬ k = 11) (h6 : ¬ k = 12) (h8 : ¬ k = 18) : madeC k a b = numG (reckS k a.n b.n) := by
 unfold madeC numG reckS
 rw [if_neg h1, if_neg h2, if_neg h3, if_neg h4, if_neg h5, if_neg h6, if_neg h8]
section
variable {w : World}
theorem madeE_ok {k : Int} {l : List CellM} {a b : CellM} {vl : Value} (hl : RowIn w vl cellCells 3 l) (hs : Some2 k l a b) (h7 : 7 ≤ k) (h18 : k ≤ 18) (ha : fits a.n) (hb : fits b.n) : Rets Tryz.prog 52 [I k, vl] w fun v w' => (∃ c, v = .tuple #[agg (cellCells c), .bool (madeC k a b).isSome] ∧ ∀ y, madeC k a b = some y → c = y) ∧ Kept noB w w' := by
 have hll := hl
 obtain ⟨A, m, rfl, ⟨hm, hm'⟩, hA⟩ := hl
 have H := Sep.start0 w
 obtain ⟨hga, hgb, hl0⟩ := hs.get
 have hl2 : l.length ≤ 2 := by rcases hs with ⟨rfl, _⟩ | ⟨rfl, _⟩ <;> simp
 obtain ⟨res, hres0⟩ : ∃ res, res = madeC k a b := ⟨_, rfl⟩
 rw [← hres0]
 have hres := hres0
 unfold madeC at hres
 refine retsC2 Tryz.func52 rfl rfl rfl rfl ?_
 refine Sr (FL_alloc H (h := fun b4 w2 H2 k1 => ?_))
 refine Am ?_
 refine Qn (FW_cut (fun z : Nat × Nat => [(0, I k), (1, .slice A l.length m), (4, .pointer (some ⟨b4, 0, none⟩)), (6, .pointer (some ⟨z.1, 0, none⟩)), (7, .pointer (some ⟨z.2, 0, none⟩))]) (fun z w' => Sep w noB [blk z.2 (cellCells b) 34, blk z.1 (cellCells a) 34, blk b4 (cellCells cell0) 34] w') ?_ ?_)
 ·refine FW_drawS rfl H2 (h := fun hok5 w7 H7 => ?_)
  refine Gm hok5 0 ?_
  refine Gp hok5 1 rfl rfl (fun _ => (Gives.idxR (i := 0) rfl rfl hA hl0)) (Gl hok5 2 rfl rfl (Gives.loadE0 (i := 0) rfl H7 hA hga) ?_)
  refine Gm hok5 3 ?_
  refine Gm hok5 4 ?_
  refine Gp hok5 5 rfl rfl (fun _ => (Gives.lenSlice rfl)) (Gp hok5 6 rfl rfl (fun _ => (Gives.subI (c := ((l.length - 1 : Nat) : Int)) rfl rfl (by omega) (by omega))) ?_)
  refine Gp hok5 7 rfl rfl (fun _ => (Gives.idxR rfl rfl (by assumption) (by omega))) (Gl hok5 8 rfl rfl (Gives.loadE0 (i := l.length - 1) rfl H7 hA hgb) ?_)
  refine FG_two hok5 (e1 := 9) (e2 := 10) (by kernel_rfl) ?_ ?_
  ·refine step_alloc hok5 9 [(8, false), (7, true), (6, true), (5, true), (4, true), (3, true), (2, false), (1, true), (0, true)] H7 (h := fun b6 w15 H15 => ⟨(Stab_cons rfl (by kernel_rfl) (Gives.loadE0 (i := l.length - 1) rfl H15 hA hgb) rfl (Stab_pure (Stab_pure (Stab_pure (Stab_pure (Stab_pure ((Stab_cons rfl (by kernel_rfl) (Gives.loadE0 (i := 0) rfl H15 hA hga) rfl (Stab_pure (Stab_pure (Stab_nil))))))))))), ?_⟩)
   refine FGalloc hok5 10 [(8, false), (7, true), (6, true), (5, true), (4, true), (3, true), (2, false), (1, true), (0, true)] H15 (h := fun b7 w17 H17 => ⟨(Stab_cons rfl (by kernel_rfl) (Gives.loadE0 (i := l.length - 1) rfl H17 hA hgb) rfl (Stab_pure (Stab_pure (Stab_pure (Stab_pure (Stab_pure ((Stab_cons rfl (by kernel_rfl) (Gives.loadE0 (i := 0) rfl H17 hA hga) rfl (Stab_pure (Stab_pure (Stab_nil))))))))))), ?_⟩)
   refine FGstoreAll hok5 11 [(8, false), (7, true), (6, true), (5, true), (4, true), (3, true)] H17 (h := fun w19 H19 => ⟨(Stab_cons rfl (by kernel_rfl) (Gives.loadE0 (i := l.length - 1) rfl H19 hA hgb) rfl (Stab_pure (Stab_pure (Stab_pure (Stab_pure (Stab_pure (Stab_nil))))))), ?_⟩)
   refine FGstoreAll hok5 12 [] H19 (h := fun w21 H21 => ⟨Stab_nil, ?_⟩)
   refine FG_end hok5 (by kernel_rfl) ?_
   exact Qcut_normal (b6, b7) ⟨rfl, rfl, rfl, rfl, rfl, trivial⟩ H21
  refine step_alloc hok5 10 [(8, false), (7, true), (6, true), (5, true), (4, true), (3, true), (2, false), (1, true), (0, true)] H7 (h := fun b7 w24 H24 => ⟨(Stab_cons rfl (by kernel_rfl) (Gives.loadE0 (i := l.length - 1) rfl H24 hA hgb) rfl (Stab_pure (Stab_pure (Stab_pure (Stab_pure (Stab_pure ((Stab_cons rfl (by kernel_rfl) (Gives.loadE0 (i := 0) rfl H24 hA hga) rfl (Stab_pure (Stab_pure (Stab_nil))))))))))), ?_⟩)
  refine FGalloc hok5 9 [(8, false), (7, true), (6, true), (5, true), (4, true), (3, true), (2, false), (1, true), (0, true)] H24 (h := fun b6 w26 H26 => ⟨(Stab_cons rfl (by kernel_rfl) (Gives.loadE0 (i := l.length - 1) rfl H26 hA hgb) rfl (Stab_pure (Stab_pure (Stab_pure (Stab_pure (Stab_pure ((Stab_cons rfl (by kernel_rfl) (Gives.loadE0 (i := 0) rfl H26 hA hga) rfl (Stab_pure (Stab_pure (Stab_nil))))))))))), ?_⟩)
  refine FGstoreAll hok5 11 [(8, false), (7, true), (6, true), (5, true), (4, true), (3, true)] H26 (h := fun w28 H28 => ⟨(Stab_cons rfl (by kernel_rfl) (Gives.loadE0 (i := l.length - 1) rfl H28 hA hgb) rfl (Stab_pure (Stab_pure (Stab_pure (Stab_pure (Stab_pure (Stab_nil))))))), ?_⟩)
  refine FGstoreAll hok5 12 [] H28 (h := fun w30 H30 => ⟨Stab_nil, ?_⟩)
  refine FG_end hok5 (by kernel_rfl) ?_
  exact Qcut_normal (b6, b7) ⟨rfl, rfl, rfl, rfl, rfl, trivial⟩ H30.front1
 rintro ⟨b6, b7⟩ τ w33 H33
 dsimp only at H33
 simp only [upds, like, upd_ds, und_ds]
 refine FW_seq (FW_block (Sr (Mv ?_)))
 refine Ve ?_
 refine Mv ?_
 refine FL_splitP (t := 23) rfl (fun hs37 => ?_) (fun hs37 => ?_)
 ·refine Of (Of (Pt ?_))
  refine Mv ?_
  refine Of (Of (Pt ?_))
  refine Am ?_
  refine Qn (FW_cond_true rfl ?_)
  refine Sr (Mv ?_)
  refine Mv ?_
  refine FL_callQ H33 (logicE_ok (hll.keep H33.kept) hs) (h := fun w45 H45 k44 => ?_)
  refine FL_storeAll H45 (h := fun w47 H47 => ?_)
  refine Am ?_
  refine Qn (Rb (QfnC_ret (h := ?_)))
  exact ⟨_, resC2 H47, made_outS (by rw [hres, if_pos (by omega)]), H47.kept⟩
 refine On (Mv ?_)
 refine On (Ve ?_)
 refine Pf ?_
 refine Mv ?_
 refine FL_splitP (t := 27) rfl (fun hs54 => ?_) (fun hs54 => ?_)
 ·refine Of (Of (Pt ?_))
  refine Am ?_
  refine Qn (FW_cond_true rfl ?_)
  refine Sr (Mv ?_)
  refine Mv ?_
  refine FL_callQ H33 (logicE_ok (hll.keep H33.kept) hs) (h := fun w60 H60 k59 => ?_)
  refine FL_storeAll H60 (h := fun w62 H62 => ?_)
  refine Am ?_
  refine Qn (Rb (QfnC_ret (h := ?_)))
  exact ⟨_, resC2 H62, made_outS (by rw [hres, if_pos (by omega)]), H62.kept⟩
 refine On (Mv ?_)
 refine On (Ve ?_)
 refine Pf ?_
 refine Am ?_
 refine Qn (Cp rfl (fun hc69 => ?_) (fun hc69 => ?_))
 ·refine Sr (Mv ?_)
  refine Mv ?_
  refine FL_callQ H33 (logicE_ok (hll.keep H33.kept) hs) (h := fun w73 H73 k72 => ?_)
  refine FL_storeAll H73 (h := fun w75 H75 => ?_)
  refine Am ?_
  refine Qn (Rb (QfnC_ret (h := ?_)))
  exact ⟨_, resC2 H75, made_outS (by rw [hres, if_pos (by omega)]), H75.kept⟩
 refine Sr (Mv ?_)
 refine Ve ?_
 refine Am ?_
 refine Qn (Cp rfl (fun hc81 => ?_) (fun hc81 => ?_))
 ·refine Sr (Vf ?_)
  refine Ld H33 ?_
  refine FL_callQ H33 (flagE_ok _) (h := fun w85 H85 k84 => ?_)
  refine FL_storeAll H85 (h := fun w87 H87 => ?_)
  refine Am ?_
  refine Qn (Rb (QfnC_ret (h := ?_)))
  exact ⟨_, resC2 H87, made_outS (by rw [hres, if_neg (by omega), if_pos (by omega)]), H87.kept⟩
 refine Sr (Mv ?_)
 refine Ve ?_
 refine Mv ?_
 refine FL_splitP (t := 43) rfl (fun hs93 => ?_) (fun hs93 => ?_)
 ·refine On (Vf ?_)
  refine On (Ld H33 ?_)
  refine Pt ?_
  refine Am ?_
  refine Qn (Cd rfl (fun hc98 => ?_) (fun hc98 => ?_))
  ·have hnl := hc98
   refine Sr (FL_loadAll H33 (h := ?_))
   refine FL_storeAll H33 (h := fun w102 H102 => ?_)
   refine Am ?_
   refine Qn (Rb (QfnC_ret (h := ?_)))
   exact ⟨_, resC2 H102, made_outS (by rw [hres, if_neg (by omega), if_neg (by omega), if_pos (by omega), if_pos hnl]), H102.kept⟩
  have hnl := hc98
  refine Sr (Mv ?_)
  refine Ve ?_
  refine Am ?_
  refine Qn (Cp rfl (fun hc109 => ?_) (fun hc109 => ?_))
  ·refine Sr (FL_loadAll H33 (h := ?_))
   refine FL_storeAll H33 (h := fun w112 H112 => ?_)
   refine Am ?_
   refine Qn (Rb (QfnC_ret (h := ?_)))
   exact ⟨_, resC2 H112, made_outS (by rw [hres, if_neg (by omega), if_neg (by omega), if_pos (by omega), if_neg (by simp [hnl])]), H112.kept⟩
  refine Sr (Vf ?_)
  refine Ld H33 ?_
  refine Mv ?_
  refine FL_split (t := 55) rfl (fun hs118 => ?_) (fun hs118 => ?_)
  ·refine Of (Of (Pt ?_))
   refine Am ?_
   refine Qn (FW_cond_true rfl ?_)
   refine Sr (Vv (Gives.build (out := cellCells cellNull) (Fills.one rfl rfl rfl (by simp) rfl Fills.nil)) (FL_storeAll H33 (h := fun w123 H123 => ?_)))
   refine Am ?_
   refine Qn (Rb (QfnC_ret (h := ?_)))
   (exfalso; omega)
  refine On (Vf ?_)
  refine On (Ld H33 ?_)
  refine Pf ?_
  refine Am ?_
  refine Qn (Cd rfl (fun hc130 => ?_) (fun hc130 => ?_))
  ·refine Sr (Vv (Gives.build (out := cellCells cellNull) (Fills.one rfl rfl rfl (by simp) rfl Fills.nil)) (FL_storeAll H33 (h := fun w133 H133 => ?_)))
   refine Am ?_
   refine Qn (Rb (QfnC_ret (h := ?_)))
   (exfalso; omega)
  have hnn : ¬ (a.null = true ∨ b.null = true) := by simp [*]
  rw [if_neg (by omega), if_neg (by omega), if_neg (by omega), if_neg hnn] at hres
  refine Sr (Mv ?_)
  refine Ve ?_
  refine Mv ?_
  refine FL_splitP (t := 63) rfl (fun hs140 => ?_) (fun hs140 => ?_)
  ·refine Of (Of (Pt ?_))
   refine Am ?_
   refine Qn (FW_cond_true rfl ?_)
   refine Sr (FL_loadAll H33 (h := ?_))
   refine FL_loadAll H33 (h := ?_)
   refine FL_callQ H33 (compareE_ok a b) (h := fun w146 H146 k145 => ?_)
   refine Am ?_
   refine Nx (Mv ?_)
   refine Ve ?_
   refine Mv ?_
   refine FL_splitP (t := 72) rfl (fun hs151 => ?_) (fun hs151 => ?_)
   ·refine On (Mv ?_)
    refine On (Ve ?_)
    refine Pt ?_
    refine Mv ?_
    refine FL_splitP (t := 76) rfl (fun hs156 => ?_) (fun hs156 => ?_)
    ·refine Of (Of (Of (Ou (Ou (Of (Pt ?_))))))
     refine FL_callQ H146 (flagE_ok _) (h := fun w159 H159 k158 => ?_)
     refine FL_storeAll H159 (h := fun w161 H161 => ?_)
     refine Am ?_
     refine Qn (Rb (QfnC_ret (h := ?_)))
     first | (exfalso; omega) | exact ⟨_, resC2 H161, made_outS (by
     rw [hres]
     first
     | (rw [if_pos (by omega)]; refine congrArg (fun x => some (flagC x)) ?_; first | exact decide_eq_true (by omega) | exact decide_eq_false (by omega) | exact decide_eq_decide.2 (by omega))
     | (rw [if_neg (by omega), if_pos (by omega)]; refine congrArg (fun x => some (flagC x)) ?_; first | exact decide_eq_true (by omega) | exact decide_eq_false (by omega) | exact decide_eq_decide.2 (by omega))), H161.kept⟩
    refine On (Mv ?_)
    refine On (Vl ?_)
    refine On (Mv ?_)
    refine FL_splitP (t := 79) rfl (fun hs167 => ?_) (fun hs167 => ?_)
    ·refine On (Mv ?_)
     refine On (Ve ?_)
     refine On (Pt ?_)
     refine Pf ?_
     refine FL_callQ H146 (flagE_ok _) (h := fun w173 H173 k172 => ?_)
     refine FL_storeAll H173 (h := fun w175 H175 => ?_)
     refine Am ?_
     refine Qn (Rb (QfnC_ret (h := ?_)))
     first | (exfalso; omega) | exact ⟨_, resC2 H175, made_outS (by
     rw [hres]
     first
     | (rw [if_pos (by omega)]; refine congrArg (fun x => some (flagC x)) ?_; first | exact decide_eq_true (by omega) | exact decide_eq_false (by omega) | exact decide_eq_decide.2 (by omega))
     | (rw [if_neg (by omega), if_pos (by omega)]; refine congrArg (fun x => some (flagC x)) ?_; first | exact decide_eq_true (by omega) | exact decide_eq_false (by omega) | exact decide_eq_decide.2 (by omega))), H175.kept⟩
    refine Of (Of (On (Pf ?_)))
    refine Pf ?_
    refine FL_callQ H146 (flagE_ok _) (h := fun w181 H181 k180 => ?_)
    refine FL_storeAll H181 (h := fun w183 H183 => ?_)
    refine Am ?_
    refine Qn (Rb (QfnC_ret (h := ?_)))
    first | (exfalso; omega) | exact ⟨_, resC2 H183, made_outS (by
    rw [hres]
    first
    | (rw [if_pos (by omega)]; refine congrArg (fun x => some (flagC x)) ?_; first | exact decide_eq_true (by omega) | exact decide_eq_false (by omega) | exact decide_eq_decide.2 (by omega))
    | (rw [if_neg (by omega), if_pos (by omega)]; refine congrArg (fun x => some (flagC x)) ?_; first | exact decide_eq_true (by omega) | exact decide_eq_false (by omega) | exact decide_eq_decide.2 (by omega))), H183.kept⟩
   refine Of (Of (Pf ?_))
   refine Mv ?_
   refine On (Mv ?_)
   refine On (Vl ?_)
   refine On (Mv ?_)
   refine FL_splitP (t := 79) rfl (fun hs191 => ?_) (fun hs191 => ?_)
   ·refine On (Mv ?_)
    refine On (Ve ?_)
    refine On (Pt ?_)
    refine Pf ?_
    refine FL_callQ H146 (flagE_ok _) (h := fun w197 H197 k196 => ?_)
    refine FL_storeAll H197 (h := fun w199 H199 => ?_)
    refine Am ?_
    refine Qn (Rb (QfnC_ret (h := ?_)))
    first | (exfalso; omega) | exact ⟨_, resC2 H199, made_outS (by
    rw [hres]
    first
    | (rw [if_pos (by omega)]; refine congrArg (fun x => some (flagC x)) ?_; first | exact decide_eq_true (by omega) | exact decide_eq_false (by omega) | exact decide_eq_decide.2 (by omega))
    | (rw [if_neg (by omega), if_pos (by omega)]; refine congrArg (fun x => some (flagC x)) ?_; first | exact decide_eq_true (by omega) | exact decide_eq_false (by omega) | exact decide_eq_decide.2 (by omega))), H199.kept⟩
   refine Of (Of (On (Pf ?_)))
   refine Pf ?_
   refine FL_callQ H146 (flagE_ok _) (h := fun w205 H205 k204 => ?_)
   refine FL_storeAll H205 (h := fun w207 H207 => ?_)
   refine Am ?_
   refine Qn (Rb (QfnC_ret (h := ?_)))
   first | (exfalso; omega) | exact ⟨_, resC2 H207, made_outS (by
   rw [hres]
   first
   | (rw [if_pos (by omega)]; refine congrArg (fun x => some (flagC x)) ?_; first | exact decide_eq_true (by omega) | exact decide_eq_false (by omega) | exact decide_eq_decide.2 (by omega))
   | (rw [if_neg (by omega), if_pos (by omega)]; refine congrArg (fun x => some (flagC x)) ?_; first | exact decide_eq_true (by omega) | exact decide_eq_false (by omega) | exact decide_eq_decide.2 (by omega))), H207.kept⟩
  refine On (Mv ?_)
  refine On (Ve ?_)
  refine Pf ?_
  refine Am ?_
  refine Qn (Cp rfl (fun hc214 => ?_) (fun hc214 => ?_))
  ·refine Sr (FL_loadAll H33 (h := ?_))
   refine FL_loadAll H33 (h := ?_)
   refine FL_callQ H33 (compareE_ok a b) (h := fun w218 H218 k217 => ?_)
   refine Am ?_
   refine Nx (Mv ?_)
   refine Ve ?_
   refine Mv ?_
   refine FL_splitP (t := 72) rfl (fun hs223 => ?_) (fun hs223 => ?_)
   ·refine On (Mv ?_)
    refine On (Ve ?_)
    refine Pt ?_
    refine Mv ?_
    refine FL_splitP (t := 76) rfl (fun hs228 => ?_) (fun hs228 => ?_)
    ·refine Of (Of (Of (Ou (Ou (Of (Pt ?_))))))
     refine FL_callQ H218 (flagE_ok _) (h := fun w231 H231 k230 => ?_)
     refine FL_storeAll H231 (h := fun w233 H233 => ?_)
     refine Am ?_
     refine Qn (Rb (QfnC_ret (h := ?_)))
     first | (exfalso; omega) | exact ⟨_, resC2 H233, made_outS (by
     rw [hres]
     first
     | (rw [if_pos (by omega)]; refine congrArg (fun x => some (flagC x)) ?_; first | exact decide_eq_true (by omega) | exact decide_eq_false (by omega) | exact decide_eq_decide.2 (by omega))
     | (rw [if_neg (by omega), if_pos (by omega)]; refine congrArg (fun x => some (flagC x)) ?_; first | exact decide_eq_true (by omega) | exact decide_eq_false (by omega) | exact decide_eq_decide.2 (by omega))), H233.kept⟩
    refine On (Mv ?_)
    refine On (Vl ?_)
    refine On (Mv ?_)
    refine FL_splitP (t := 79) rfl (fun hs239 => ?_) (fun hs239 => ?_)
    ·refine On (Mv ?_)
     refine On (Ve ?_)
     refine On (Pt ?_)
     refine Pf ?_
     refine FL_callQ H218 (flagE_ok _) (h := fun w245 H245 k244 => ?_)
     refine FL_storeAll H245 (h := fun w247 H247 => ?_)
     refine Am ?_
     refine Qn (Rb (QfnC_ret (h := ?_)))
     first | (exfalso; omega) | exact ⟨_, resC2 H247, made_outS (by
     rw [hres]
     first
     | (rw [if_pos (by omega)]; refine congrArg (fun x => some (flagC x)) ?_; first | exact decide_eq_true (by omega) | exact decide_eq_false (by omega) | exact decide_eq_decide.2 (by omega))
     | (rw [if_neg (by omega), if_pos (by omega)]; refine congrArg (fun x => some (flagC x)) ?_; first | exact decide_eq_true (by omega) | exact decide_eq_false (by omega) | exact decide_eq_decide.2 (by omega))), H247.kept⟩
    refine Of (Of (On (Pf ?_)))
    refine Pf ?_
    refine FL_callQ H218 (flagE_ok _) (h := fun w253 H253 k252 => ?_)
    refine FL_storeAll H253 (h := fun w255 H255 => ?_)
    refine Am ?_
    refine Qn (Rb (QfnC_ret (h := ?_)))
    first | (exfalso; omega) | exact ⟨_, resC2 H255, made_outS (by
    rw [hres]
    first
    | (rw [if_pos (by omega)]; refine congrArg (fun x => some (flagC x)) ?_; first | exact decide_eq_true (by omega) | exact decide_eq_false (by omega) | exact decide_eq_decide.2 (by omega))
    | (rw [if_neg (by omega), if_pos (by omega)]; refine congrArg (fun x => some (flagC x)) ?_; first | exact decide_eq_true (by omega) | exact decide_eq_false (by omega) | exact decide_eq_decide.2 (by omega))), H255.kept⟩
   refine Of (Of (Pf ?_))
   refine Mv ?_
   refine On (Mv ?_)
   refine On (Vl ?_)
   refine On (Mv ?_)
   refine FL_splitP (t := 79) rfl (fun hs263 => ?_) (fun hs263 => ?_)
   ·refine On (Mv ?_)
    refine On (Ve ?_)
    refine On (Pt ?_)
    refine Pf ?_
    refine FL_callQ H218 (flagE_ok _) (h := fun w269 H269 k268 => ?_)
    refine FL_storeAll H269 (h := fun w271 H271 => ?_)
    refine Am ?_
    refine Qn (Rb (QfnC_ret (h := ?_)))
    first | (exfalso; omega) | exact ⟨_, resC2 H271, made_outS (by
    rw [hres]
    first
    | (rw [if_pos (by omega)]; refine congrArg (fun x => some (flagC x)) ?_; first | exact decide_eq_true (by omega) | exact decide_eq_false (by omega) | exact decide_eq_decide.2 (by omega))
    | (rw [if_neg (by omega), if_pos (by omega)]; refine congrArg (fun x => some (flagC x)) ?_; first | exact decide_eq_true (by omega) | exact decide_eq_false (by omega) | exact decide_eq_decide.2 (by omega))), H271.kept⟩
   refine Of (Of (On (Pf ?_)))
   refine Pf ?_
   refine FL_callQ H218 (flagE_ok _) (h := fun w277 H277 k276 => ?_)
   refine FL_storeAll H277 (h := fun w279 H279 => ?_)
   refine Am ?_
   refine Qn (Rb (QfnC_ret (h := ?_)))
   first | (exfalso; omega) | exact ⟨_, resC2 H279, made_outS (by
   rw [hres]
   first
   | (rw [if_pos (by omega)]; refine congrArg (fun x => some (flagC x)) ?_; first | exact decide_eq_true (by omega) | exact decide_eq_false (by omega) | exact decide_eq_decide.2 (by omega))
   | (rw [if_neg (by omega), if_pos (by omega)]; refine congrArg (fun x => some (flagC x)) ?_; first | exact decide_eq_true (by omega) | exact decide_eq_false (by omega) | exact decide_eq_decide.2 (by omega))), H279.kept⟩
  refine Sr (Mv ?_)
  refine Ve ?_
  refine Am ?_
  refine Qn (Cp rfl (fun hc285 => ?_) (fun hc285 => ?_))
  ·refine Sr (Vf ?_)
   refine Ld H33 ?_
   refine Vt ?_
   refine Vv (Gives.build (out := cellCells ⟨false, (a.s.length : Int), []⟩) (Fills.one rfl rfl rfl (by simp) rfl Fills.nil)) (FL_storeAll H33 (h := fun w291 H291 => ?_))
   refine Am ?_
   refine Qn (Rb (QfnC_ret (h := ?_)))
   (exfalso; omega)
  refine FW_skip (Qblk_normal (Qseq_normal (Sr (Mv ?_))))
  refine Vf ?_
  refine Ld H33 ?_
  refine Vf ?_
  refine Ld H33 ?_
  refine FL_call (reckon_ok k a.n b.n ha hb) rfl rfl (fun v' w300 hv => ?_)
  obtain ⟨⟨cp, rfl, hcp⟩, hkk⟩ := hv
  have H300 := H33.keep hkk
  refine Mv ?_
  refine Vx ?_
  refine Vx ?_
  refine Am ?_
  refine Am ?_
  refine Nx (Mv ?_)
  refine Vv (Gives.build (out := cellCells ⟨false, cp, []⟩) (Fills.one rfl rfl rfl (by simp) rfl Fills.nil)) (Mv ?_)
  refine FL_storeAll H300 (h := fun w310 H310 => ?_)
  refine Am ?_
  refine Qn (FW_ret (QfnC_ret (h := ?_)))
  (exfalso; omega)
 refine Of (Of (Pf ?_))
 refine Am ?_
 refine Qn (FW_cond_false rfl ?_)
 refine Sr (Mv ?_)
 refine Ve ?_
 refine Am ?_
 refine Qn (Cp rfl (fun hc318 => ?_) (fun hc318 => ?_))
 ·refine Sr (FL_loadAll H33 (h := ?_))
  refine FL_storeAll H33 (h := fun w321 H321 => ?_)
  refine Am ?_
  refine Qn (Rb (QfnC_ret (h := ?_)))
  (exfalso; omega)
 refine Sr (Vf ?_)
 refine Ld H33 ?_
 refine Mv ?_
 refine FL_split (t := 55) rfl (fun hs327 => ?_) (fun hs327 => ?_)
 ·refine Of (Of (Pt ?_))
  refine Am ?_
  refine Qn (FW_cond_true rfl ?_)
  refine Sr (Vv (Gives.build (out := cellCells cellNull) (Fills.one rfl rfl rfl (by simp) rfl Fills.nil)) (FL_storeAll H33 (h := fun w332 H332 => ?_)))
  refine Am ?_
  refine Qn (Rb (QfnC_ret (h := ?_)))
  exact ⟨_, resC2 H332, made_outS (by rw [hres, if_neg (by omega), if_neg (by omega), if_neg (by omega), if_pos (by simp [*])]), H332.kept⟩
 refine On (Vf ?_)
 refine On (Ld H33 ?_)
 refine Pf ?_
 refine Am ?_
 refine Qn (Cd rfl (fun hc339 => ?_) (fun hc339 => ?_))
 ·refine Sr (Vv (Gives.build (out := cellCells cellNull) (Fills.one rfl rfl rfl (by simp) rfl Fills.nil)) (FL_storeAll H33 (h := fun w342 H342 => ?_)))
  refine Am ?_
  refine Qn (Rb (QfnC_ret (h := ?_)))
  exact ⟨_, resC2 H342, made_outS (by rw [hres, if_neg (by omega), if_neg (by omega), if_neg (by omega), if_pos (by simp [*])]), H342.kept⟩
 have hnn : ¬ (a.null = true ∨ b.null = true) := by simp [*]
 rw [if_neg (by omega), if_neg (by omega), if_neg (by omega), if_neg hnn] at hres
 refine Sr (Mv ?_)
 refine Ve ?_
 refine Mv ?_
 refine FL_splitP (t := 63) rfl (fun hs349 => ?_) (fun hs349 => ?_)
 ·refine Of (Of (Pt ?_))
  refine Am ?_
  refine Qn (FW_cond_true rfl ?_)
  refine Sr (FL_loadAll H33 (h := ?_))
  refine FL_loadAll H33 (h := ?_)
  refine FL_callQ H33 (compareE_ok a b) (h := fun w355 H355 k354 => ?_)
  refine Am ?_
  refine Nx (Mv ?_)
  refine Ve ?_
  refine Mv ?_
  refine FL_splitP (t := 72) rfl (fun hs360 => ?_) (fun hs360 => ?_)
  ·refine On (Mv ?_)
   refine On (Ve ?_)
   refine Pt ?_
   refine Mv ?_
   refine FL_splitP (t := 76) rfl (fun hs365 => ?_) (fun hs365 => ?_)
   ·refine Of (Of (Of (Ou (Ou (Of (Pt ?_))))))
    refine FL_callQ H355 (flagE_ok _) (h := fun w368 H368 k367 => ?_)
    refine FL_storeAll H368 (h := fun w370 H370 => ?_)
    refine Am ?_
    refine Qn (Rb (QfnC_ret (h := ?_)))
    first | (exfalso; omega) | exact ⟨_, resC2 H370, made_outS (by
    rw [hres]
    first
    | (rw [if_pos (by omega)]; refine congrArg (fun x => some (flagC x)) ?_; first | exact decide_eq_true (by omega) | exact decide_eq_false (by omega) | exact decide_eq_decide.2 (by omega))
    | (rw [if_neg (by omega), if_pos (by omega)]; refine congrArg (fun x => some (flagC x)) ?_; first | exact decide_eq_true (by omega) | exact decide_eq_false (by omega) | exact decide_eq_decide.2 (by omega))), H370.kept⟩
   refine On (Mv ?_)
   refine On (Vl ?_)
   refine On (Mv ?_)
   refine FL_splitP (t := 79) rfl (fun hs376 => ?_) (fun hs376 => ?_)
   ·refine On (Mv ?_)
    refine On (Ve ?_)
    refine On (Pt ?_)
    refine Pf ?_
    refine FL_callQ H355 (flagE_ok _) (h := fun w382 H382 k381 => ?_)
    refine FL_storeAll H382 (h := fun w384 H384 => ?_)
    refine Am ?_
    refine Qn (Rb (QfnC_ret (h := ?_)))
    first | (exfalso; omega) | exact ⟨_, resC2 H384, made_outS (by
    rw [hres]
    first
    | (rw [if_pos (by omega)]; refine congrArg (fun x => some (flagC x)) ?_; first | exact decide_eq_true (by omega) | exact decide_eq_false (by omega) | exact decide_eq_decide.2 (by omega))
    | (rw [if_neg (by omega), if_pos (by omega)]; refine congrArg (fun x => some (flagC x)) ?_; first | exact decide_eq_true (by omega) | exact decide_eq_false (by omega) | exact decide_eq_decide.2 (by omega))), H384.kept⟩
   refine Of (Of (On (Pf ?_)))
   refine Pf ?_
   refine FL_callQ H355 (flagE_ok _) (h := fun w390 H390 k389 => ?_)
   refine FL_storeAll H390 (h := fun w392 H392 => ?_)
   refine Am ?_
   refine Qn (Rb (QfnC_ret (h := ?_)))
   first | (exfalso; omega) | exact ⟨_, resC2 H392, made_outS (by
   rw [hres]
   first
   | (rw [if_pos (by omega)]; refine congrArg (fun x => some (flagC x)) ?_; first | exact decide_eq_true (by omega) | exact decide_eq_false (by omega) | exact decide_eq_decide.2 (by omega))
   | (rw [if_neg (by omega), if_pos (by omega)]; refine congrArg (fun x => some (flagC x)) ?_; first | exact decide_eq_true (by omega) | exact decide_eq_false (by omega) | exact decide_eq_decide.2 (by omega))), H392.kept⟩
  refine Of (Of (Pf ?_))
  refine Mv ?_
  refine On (Mv ?_)
  refine On (Vl ?_)
  refine On (Mv ?_)
  refine FL_splitP (t := 79) rfl (fun hs400 => ?_) (fun hs400 => ?_)
  ·refine On (Mv ?_)
   refine On (Ve ?_)
   refine On (Pt ?_)
   refine Pf ?_
   refine FL_callQ H355 (flagE_ok _) (h := fun w406 H406 k405 => ?_)
   refine FL_storeAll H406 (h := fun w408 H408 => ?_)
   refine Am ?_
   refine Qn (Rb (QfnC_ret (h := ?_)))
   first | (exfalso; omega) | exact ⟨_, resC2 H408, made_outS (by
   rw [hres]
   first
   | (rw [if_pos (by omega)]; refine congrArg (fun x => some (flagC x)) ?_; first | exact decide_eq_true (by omega) | exact decide_eq_false (by omega) | exact decide_eq_decide.2 (by omega))
   | (rw [if_neg (by omega), if_pos (by omega)]; refine congrArg (fun x => some (flagC x)) ?_; first | exact decide_eq_true (by omega) | exact decide_eq_false (by omega) | exact decide_eq_decide.2 (by omega))), H408.kept⟩
  refine Of (Of (On (Pf ?_)))
  refine Pf ?_
  refine FL_callQ H355 (flagE_ok _) (h := fun w414 H414 k413 => ?_)
  refine FL_storeAll H414 (h := fun w416 H416 => ?_)
  refine Am ?_
  refine Qn (Rb (QfnC_ret (h := ?_)))
  first | (exfalso; omega) | exact ⟨_, resC2 H416, made_outS (by
  rw [hres]
  first
  | (rw [if_pos (by omega)]; refine congrArg (fun x => some (flagC x)) ?_; first | exact decide_eq_true (by omega) | exact decide_eq_false (by omega) | exact decide_eq_decide.2 (by omega))
  | (rw [if_neg (by omega), if_pos (by omega)]; refine congrArg (fun x => some (flagC x)) ?_; first | exact decide_eq_true (by omega) | exact decide_eq_false (by omega) | exact decide_eq_decide.2 (by omega))), H416.kept⟩
 refine On (Mv ?_)
 refine On (Ve ?_)
 refine Pf ?_
 refine Am ?_
 refine Qn (Cp rfl (fun hc423 => ?_) (fun hc423 => ?_))
 ·refine Sr (FL_loadAll H33 (h := ?_))
  refine FL_loadAll H33 (h := ?_)
  refine FL_callQ H33 (compareE_ok a b) (h := fun w427 H427 k426 => ?_)
  refine Am ?_
  refine Nx (Mv ?_)
  refine Ve ?_
  refine Mv ?_
  refine FL_splitP (t := 72) rfl (fun hs432 => ?_) (fun hs432 => ?_)
  ·refine On (Mv ?_)
   refine On (Ve ?_)
   refine Pt ?_
   refine Mv ?_
   refine FL_splitP (t := 76) rfl (fun hs437 => ?_) (fun hs437 => ?_)
   ·refine Of (Of (Of (Ou (Ou (Of (Pt ?_))))))
    refine FL_callQ H427 (flagE_ok _) (h := fun w440 H440 k439 => ?_)
    refine FL_storeAll H440 (h := fun w442 H442 => ?_)
    refine Am ?_
    refine Qn (Rb (QfnC_ret (h := ?_)))
    first | (exfalso; omega) | exact ⟨_, resC2 H442, made_outS (by
    rw [hres]
    first
    | (rw [if_pos (by omega)]; refine congrArg (fun x => some (flagC x)) ?_; first | exact decide_eq_true (by omega) | exact decide_eq_false (by omega) | exact decide_eq_decide.2 (by omega))
    | (rw [if_neg (by omega), if_pos (by omega)]; refine congrArg (fun x => some (flagC x)) ?_; first | exact decide_eq_true (by omega) | exact decide_eq_false (by omega) | exact decide_eq_decide.2 (by omega))), H442.kept⟩
   refine On (Mv ?_)
   refine On (Vl ?_)
   refine On (Mv ?_)
   refine FL_splitP (t := 79) rfl (fun hs448 => ?_) (fun hs448 => ?_)
   ·refine On (Mv ?_)
    refine On (Ve ?_)
    refine On (Pt ?_)
    refine Pf ?_
    refine FL_callQ H427 (flagE_ok _) (h := fun w454 H454 k453 => ?_)
    refine FL_storeAll H454 (h := fun w456 H456 => ?_)
    refine Am ?_
    refine Qn (Rb (QfnC_ret (h := ?_)))
    first | (exfalso; omega) | exact ⟨_, resC2 H456, made_outS (by
    rw [hres]
    first
    | (rw [if_pos (by omega)]; refine congrArg (fun x => some (flagC x)) ?_; first | exact decide_eq_true (by omega) | exact decide_eq_false (by omega) | exact decide_eq_decide.2 (by omega))
    | (rw [if_neg (by omega), if_pos (by omega)]; refine congrArg (fun x => some (flagC x)) ?_; first | exact decide_eq_true (by omega) | exact decide_eq_false (by omega) | exact decide_eq_decide.2 (by omega))), H456.kept⟩
   refine Of (Of (On (Pf ?_)))
   refine Pf ?_
   refine FL_callQ H427 (flagE_ok _) (h := fun w462 H462 k461 => ?_)
   refine FL_storeAll H462 (h := fun w464 H464 => ?_)
   refine Am ?_
   refine Qn (Rb (QfnC_ret (h := ?_)))
   first | (exfalso; omega) | exact ⟨_, resC2 H464, made_outS (by
   rw [hres]
   first
   | (rw [if_pos (by omega)]; refine congrArg (fun x => some (flagC x)) ?_; first | exact decide_eq_true (by omega) | exact decide_eq_false (by omega) | exact decide_eq_decide.2 (by omega))
   | (rw [if_neg (by omega), if_pos (by omega)]; refine congrArg (fun x => some (flagC x)) ?_; first | exact decide_eq_true (by omega) | exact decide_eq_false (by omega) | exact decide_eq_decide.2 (by omega))), H464.kept⟩
  refine Of (Of (Pf ?_))
  refine Mv ?_
  refine On (Mv ?_)
  refine On (Vl ?_)
  refine On (Mv ?_)
  refine FL_splitP (t := 79) rfl (fun hs472 => ?_) (fun hs472 => ?_)
  ·refine On (Mv ?_)
   refine On (Ve ?_)
   refine On (Pt ?_)
   refine Pf ?_
   refine FL_callQ H427 (flagE_ok _) (h := fun w478 H478 k477 => ?_)
   refine FL_storeAll H478 (h := fun w480 H480 => ?_)
   refine Am ?_
   refine Qn (Rb (QfnC_ret (h := ?_)))
   first | (exfalso; omega) | exact ⟨_, resC2 H480, made_outS (by
   rw [hres]
   first
   | (rw [if_pos (by omega)]; refine congrArg (fun x => some (flagC x)) ?_; first | exact decide_eq_true (by omega) | exact decide_eq_false (by omega) | exact decide_eq_decide.2 (by omega))
   | (rw [if_neg (by omega), if_pos (by omega)]; refine congrArg (fun x => some (flagC x)) ?_; first | exact decide_eq_true (by omega) | exact decide_eq_false (by omega) | exact decide_eq_decide.2 (by omega))), H480.kept⟩
  refine Of (Of (On (Pf ?_)))
  refine Pf ?_
  refine FL_callQ H427 (flagE_ok _) (h := fun w486 H486 k485 => ?_)
  refine FL_storeAll H486 (h := fun w488 H488 => ?_)
  refine Am ?_
  refine Qn (Rb (QfnC_ret (h := ?_)))
  first | (exfalso; omega) | exact ⟨_, resC2 H488, made_outS (by
  rw [hres]
  first
  | (rw [if_pos (by omega)]; refine congrArg (fun x => some (flagC x)) ?_; first | exact decide_eq_true (by omega) | exact decide_eq_false (by omega) | exact decide_eq_decide.2 (by omega))
  | (rw [if_neg (by omega), if_pos (by omega)]; refine congrArg (fun x => some (flagC x)) ?_; first | exact decide_eq_true (by omega) | exact decide_eq_false (by omega) | exact decide_eq_decide.2 (by omega))), H488.kept⟩
 refine Sr (Mv ?_)
 refine Ve ?_
 refine Am ?_
 refine Qn (Cp rfl (fun hc494 => ?_) (fun hc494 => ?_))
 ·refine Sr (Vf ?_)
  refine Ld H33 ?_
  refine Vt ?_
  refine Vv (Gives.build (out := cellCells ⟨false, (a.s.length : Int), []⟩) (Fills.one rfl rfl rfl (by simp) rfl Fills.nil)) (FL_storeAll H33 (h := fun w500 H500 => ?_))
  refine Am ?_
  refine Qn (Rb (QfnC_ret (h := ?_)))
  exact ⟨_, resC2 H500, made_outS (by rw [hres, if_neg (by omega), if_neg (by omega), if_pos (by omega)]), H500.kept⟩
 refine FW_skip (Qblk_normal (Qseq_normal (Sr (Mv ?_))))
 refine Vf ?_
 refine Ld H33 ?_
 refine Vf ?_
 refine Ld H33 ?_
 refine FL_call (reckon_ok k a.n b.n ha hb) rfl rfl (fun v' w509 hv => ?_)
 obtain ⟨⟨cp, rfl, hcp⟩, hkk⟩ := hv
 have H509 := H33.keep hkk
 refine Mv ?_
 refine Vx ?_
 refine Vx ?_
 refine Am ?_
 refine Am ?_
 refine Nx (Mv ?_)
 refine Vv (Gives.build (out := cellCells ⟨false, cp, []⟩) (Fills.one rfl rfl rfl (by simp) rfl Fills.nil)) (Mv ?_)
 refine FL_storeAll H509 (h := fun w519 H519 => ?_)
 refine Am ?_
 refine Qn (FW_ret (QfnC_ret (h := ?_)))
 exact ⟨_, resC2 H519, made_outN (n := reckS k a.n b.n) (by rw [hres0]; exact reck_made h7 h18 (by omega) (by omega) (by omega) hnn (by omega) (by omega) (by omega)) rfl hcp, H519.kept⟩
end
end Go.Proofs.YtmkaahkbhdlniaaGreatDoor
namespace Go.Proofs.YtmkaahkbhdlniaaGreatDoor
open Go Go.Lib Go.Mw
set_option maxRecDepth 4000
def RowFits (r : List CellM) : Prop := ∀ c ∈ r, fits c.n
theorem row_ok {cols : List ColM} {r : List CellM} (h : rowCheck cols r = 0) : cols.length = r.length ∧ ∀ (i : Nat) a c, cols[i]? = some a → r[i]? = some c → okC a.type c := by
  have hl : cols.length = r.length := by
    refine Classical.byContradiction fun hn => ?_
    unfold rowCheck at h
    rw [if_pos hn] at h; cases h
  refine ⟨hl, fun i a c ha hc => ?_⟩
  have key : ∀ j, rowAtC cols r j = 0 → ∀ i, j ≤ i → rowAtC cols r i = 0 := by
    intro j hj i hi
    induction i with
    | zero => have : j = 0 := by omega
              subst this; exact hj
    | succ i ih =>
      by_cases hji : j = i + 1
      · rw [← hji]; exact hj
      have h0 := ih (by omega)
      rcases Nat.lt_or_ge i r.length with hlt | hge
      · obtain ⟨c, hc⟩ := get_some hlt
        obtain ⟨a, ha⟩ := get_some (l := cols) (i := i) (by omega)
        rw [rowAtC_step ha hc] at h0
        split at h0
        · rename_i h1; exact absurd h0 h1
        exact h0
      exact rowAtC_end (by omega)
  have h0 := key 0 (by rw [← rowCheck_at hl]; exact h) i (Nat.zero_le _)
  rw [rowAtC_step ha hc] at h0
  split at h0
  · rename_i h1; exact absurd h0 h1
  rename_i h1; exact Classical.byContradiction fun hn => h1 hn
def leafC (cols : List ColM) (r : List CellM) (x : StepM) : CellM := if x.kind = 1 then r.getD ((findC cols x.n).getD 0) cell0 else if x.kind = 6 then cellNull else ⟨false, x.n, x.s⟩
theorem leaf_typed {cols : List ColM} {r : List CellM} {x : StepM} {t : TypeM} (hr : rowCheck cols r = 0) (hf : RowFits r) (hx : fits x.n) (hm : mayS x = true) (hk : x.kind < 7) (ht : leafT cols x = some t) : okC t (leafC cols r x) ∧ fits (leafC cols r x).n := by
 obtain ⟨hl, hok⟩ := row_ok hr
 have hkk : 1 ≤ x.kind := by
  unfold mayS at hm
  repeat' split at hm
  all_goals first | omega | (have := of_decide_eq_true hm; omega)
 unfold leafC
 unfold leafT at ht
 unfold mayS at hm
 by_cases h1 : x.kind = 1
 ·rw [if_pos h1] at ht ⊢
  cases hfc : findC cols x.n with
  | none => rw [hfc] at ht; cases ht
  | some i =>
   rw [hfc] at ht
   have hlt := find_lt hfc
   obtain ⟨a, ha⟩ := get_some hlt
   obtain ⟨c, hc⟩ := get_some (l := r) (i := i) (by omega)
   have hgd : cols.getD i ⟨0, [], type0, cell0⟩ = a := getD_of ha
   simp only [Option.getD_some, hgd] at ht ⊢
   rw [getD_of hc]
   have hac := hok i a c ha hc
   have hfx : fits c.n := hf c (List.mem_of_getElem? hc)
   split at ht
   ·cases ht
   injection ht with ht
   subst ht
   split
   ·rename_i h2
    refine ⟨?_, hfx⟩
    rcases (okC_iff.1 hac).2 with ⟨b1, b2, b3⟩ | ⟨b1, b2⟩
    ·rw [b2, b3]; exact okC_null (by decide)
    rw [h2] at b2
    unfold isC at b2
    rw [if_neg (by decide), if_pos rfl] at b2
    have b3 := of_decide_eq_true b2
    exact okC_iff.2 ⟨may_of (show (1 : Int) ≤ 3 ∧ (3 : Int) ≤ 5 by decide), .inr ⟨b1, by simp [isC, b3.1]⟩⟩
   exact ⟨hac, hfx⟩
 rw [if_neg h1] at ht hm ⊢
 by_cases h2 : x.kind = 2
 ·rw [if_pos h2] at ht hm
  rw [if_neg (by omega)]
  injection ht with ht
  subst ht
  have hs : x.s = [] := of_decide_eq_true hm
  rw [hs]
  exact ⟨okC_num _ _, hx⟩
 rw [if_neg h2] at ht hm
 by_cases h3 : x.kind = 3
 ·rw [if_pos h3] at ht hm
  rw [if_neg (by omega)]
  injection ht with ht
  subst ht
  have hs := of_decide_eq_true hm
  exact ⟨okC_iff.2 ⟨may_of (show (1 : Int) ≤ 1 ∧ (1 : Int) ≤ 5 by decide), .inr ⟨rfl, by simp [isC]; exact hs⟩⟩, hx⟩
 rw [if_neg h3] at ht hm
 by_cases h4 : x.kind = 4
 ·rw [if_pos h4] at ht hm
  rw [if_neg (by omega)]
  injection ht with ht
  subst ht
  have hs := of_decide_eq_true hm
  exact ⟨okC_iff.2 ⟨may_of (show (1 : Int) ≤ 4 ∧ (4 : Int) ≤ 5 by decide), .inr ⟨rfl, by simp [isC]; exact hs⟩⟩, hx⟩
 rw [if_neg h4] at ht hm
 by_cases h5 : x.kind = 5
 ·rw [if_pos h5] at ht hm
  rw [if_neg (by omega)]
  injection ht with ht
  subst ht
  have hs := of_decide_eq_true hm
  exact ⟨okC_iff.2 ⟨may_of (show (1 : Int) ≤ 5 ∧ (5 : Int) ≤ 5 by decide), .inr ⟨rfl, by simp [isC]; exact hs⟩⟩, hx⟩
 rw [if_neg h5] at ht hm
 rw [if_pos (by omega)] at hm
 rw [if_pos (by omega)]
 injection ht with ht
 subst ht
 have hs := of_decide_eq_true hm
 exact ⟨okC_null (by omega), by decide, by decide⟩
def Typed (ts : List TypeM) (st : List CellM) : Prop := ts.length = st.length ∧ ∀ (i : Nat) t c, ts[i]? = some t → st[i]? = some c → okC t c ∧ fits c.n
theorem Typed.push {ts : List TypeM} {st : List CellM} (h : Typed ts st) {m : Nat} {t : TypeM} {c : CellM} (hm : m ≤ st.length) (hc : okC t c ∧ fits c.n) : Typed (ts.take m ++ [t]) (st.take m ++ [c]) := by
 obtain ⟨h1, h2⟩ := h
 have e1 : (ts.take m).length = m := by rw [List.length_take]; omega
 have e2 : (st.take m).length = m := by rw [List.length_take]; omega
 refine ⟨by simp [h1], fun i t' c' ht hc' => ?_⟩
 rcases Nat.lt_or_ge i m with hi | hi
 ·rw [List.getElem?_append_left (by omega), List.getElem?_take, if_pos hi] at ht hc'
  exact h2 i t' c' ht hc'
 rw [List.getElem?_append_right (by omega), e1] at ht
 rw [List.getElem?_append_right (by omega), e2] at hc'
 cases hd : i - m with
 | zero =>
  rw [hd] at ht hc'
  simp at ht hc'
  rw [← ht, ← hc']; exact hc
 | succ j => rw [hd] at ht; simp at ht
theorem Typed.nil : Typed [] [] := ⟨rfl, fun i t c h => by simp at h⟩
theorem may_le {x : StepM} (h : mayS x = true) : 1 ≤ x.kind ∧ x.kind ≤ 18 := by
 unfold mayS at h
 repeat' split at h
 all_goals first | omega | (have := of_decide_eq_true h; omega)
def resG (cols : List ColM) (r : List CellM) (st : List CellM) (x : StepM) : Option CellM :=
 if takesD x.kind = 0 then some (leafC cols r x) else madeG x.kind (st.getD (st.length - takesD x.kind) cell0) (st.getD (st.length - 1) cell0)
theorem takesS_zero (k : Int) : takesS k = 0 ↔ k < 7 := by
 unfold takesS
 repeat' split
 all_goals omega
theorem step_typed {cols : List ColM} {r : List CellM} {x : StepM} {ts ts' : List TypeM} {st : List CellM} (hr : rowCheck cols r = 0) (hf : RowFits r) (hx : fits x.n) (hT : Typed ts st) (hs : stepT cols ts x = some ts') :
    stepE cols r st x = (resG cols r st x).map (fun c => st.take (st.length - takesD x.kind) ++ [c]) ∧ ∀ c, resG cols r st x = some c → Typed ts' (st.take (st.length - takesD x.kind) ++ [c]) ∧ fits c.n := by
  have hno := fun h => stepT_no (cols := cols) (st := ts) (x := x) h
  have hm : mayS x = true := by
    cases h : mayS x with
    | true => rfl
    | false => rw [hno (.inl h)] at hs; cases hs
  have hle : takesD x.kind ≤ ts.length := by
    refine Classical.byContradiction fun h => ?_
    rw [hno (.inr (by omega))] at hs; cases hs
  rw [stepT_res hm hle] at hs
  obtain ⟨t, ht, hts⟩ := Option.map_eq_some_iff.1 hs
  subst hts
  have hlen := hT.1
  unfold resT at ht
  unfold stepE resG
  have htk := takes_may hm
  rw [← htk]
  dsimp only
  by_cases h0 : takesD x.kind = 0
  · rw [if_pos h0] at ht
    rw [if_pos h0, if_pos h0]
    have hl := leaf_typed hr hf hx hm ((takesS_zero _).1 (by rw [← htk]; exact h0)) ht
    refine ⟨rfl, fun c hc => ?_⟩
    injection hc with hc
    subst hc
    rw [hlen]
    exact ⟨hT.push (by omega) hl, hl.2⟩
  rw [if_neg h0] at ht
  rw [if_neg h0, if_neg h0]
  have hk7 : 7 ≤ x.kind := by
    refine Classical.byContradiction fun h => h0 ?_
    rw [htk]; exact (takesS_zero _).2 (by omega)
  obtain ⟨a, ha⟩ := get_some (l := st) (i := st.length - takesD x.kind) (by omega)
  obtain ⟨b, hb⟩ := get_some (l := st) (i := st.length - 1) (by omega)
  obtain ⟨ta, hta⟩ := get_some (l := ts) (i := ts.length - takesD x.kind) (by omega)
  obtain ⟨tb, htb⟩ := get_some (l := ts) (i := ts.length - 1) (by omega)
  rw [getD_of hta, getD_of htb] at ht
  rw [getD_of ha, getD_of hb]
  have oa := hT.2 (st.length - takesD x.kind) ta a (by rw [← hlen]; exact hta) ha
  have ob := hT.2 (st.length - 1) tb b (by rw [← hlen]; exact htb) hb
  obtain ⟨e1, e2⟩ := made_typed ⟨hk7, (may_le hm).2⟩ ht oa.1 ob.1 oa.2 ob.2
  rw [e1]
  refine ⟨rfl, fun c hc => ?_⟩
  have := e2 c hc
  rw [hlen]
  exact ⟨hT.push (by omega) this, this.2⟩
end Go.Proofs.YtmkaahkbhdlniaaGreatDoor
namespace Go.Proofs.YtmkaahkbhdlniaaGreatDoor
open Go Go.Mw Go.Lib
set_option maxRecDepth 4000
attribute [local irreducible] checkC
section
variable {w : World}
theorem check1_ok {b i : Nat} {E : TypeId} {cols : List ColM} {vc : Value} {a : ColM} (c : CellM) (hb : w.heap[b]? = some (.cells #[vc] E (0, 0))) (hc : RowIn w vc colCells 7 cols) (ha : cols[i]? = some a) (hf : fits c.n) (hT : TabsU w) : Rets Tryz.prog 91 [I i, agg (cellCells c), .pointer (some ⟨b, 0, none⟩)] w fun v w' => v = I (checkC a.type c) ∧ Kept noB w w' := by
 obtain ⟨A, m, rfl, ⟨hm, hm'⟩, hA⟩ := hc
 have H := Sep.start0 w
 have hlt := get_lt ha
 refine rets3 Tryz.func91 rfl rfl rfl rfl ?_
 refine Sr (FL_box H (cs := cellCells c) rfl (h := fun b0 w2 H2 k0 => ?_))
 refine Am ?_
 refine Qn (FW_seq (FW_drawS rfl H2 (h := fun hok4 w6 H6 => ?_)))
 refine Gl hok4 0 rfl rfl (Gives.load1 (cs := [.slice A cols.length m]) rfl (H6.kept.get hb id) rfl) (Gm hok4 1 ?_)
 refine Gp hok4 2 rfl rfl (fun _ => (Gives.idxR rfl rfl (by assumption) (by omega))) (Gp hok4 3 rfl rfl (fun _ => (Gives.fieldR rfl (by assumption) (by omega))) ?_)
 refine Gl hok4 4 rfl rfl (Gives.loadEN (us := typeCells a.type) rfl H6 hA ha rfl rfl) (FGloadAll hok4 5 H6 (h := ?_))
 refine FGcallQ hok4 6 [] H6 (cellCheck_ok a.type c hf (hT.keep H6.kept)) (h := fun w13 H13 k12 => ⟨Stab_nil, ?_⟩)
 refine Gp hok4 7 rfl rfl (fun _ => Gives.assign rfl) (FG_end hok4 (by kernel_rfl) ?_)
 refine Qseq_normal (FW_ret (Qfn_ret (hR := ?_)))
 exact ⟨rfl, H13.kept⟩
theorem first_ok {cols : List ColM} {r : List CellM} {vr : Value} {f : FuncId} {fs cs : List Value} [hen : Mw.Enters Tryz.prog f] (hr : RowIn w vr cellCells 3 r) (hlen : cols.length = r.length)
    (hcall : ∀ (i : Nat) a c w', cols[i]? = some a → r[i]? = some c → Kept noB w w' → Rets Tryz.prog f (fs ++ [I i, agg (cellCells c)] ++ cs) w' fun v w'' => v = I (checkC a.type c) ∧ Kept noB w' w'') :
    Rets Tryz.prog 90 [vr, .func (.func f) fs.toArray cs.toArray] w fun v w' => v = I (rowAtC cols r 0) ∧ Kept noB w w' := by
  obtain ⟨A, m, rfl, ⟨hm, hm'⟩, hA⟩ := hr
  have H := Sep.start0 w
  refine rets2 Tryz.func90 rfl rfl rfl rfl ?_
  refine Sr (Am ?_)
  refine Qn (FW_seq (Sr (Mv ?_)))
  refine Vs ?_
  refine Mv ?_
  refine Qn (FW_block (FW_loop' (fun i : Nat => [(1, .func (.func f) fs.toArray cs.toArray), (8, .slice A r.length m), (9, I r.length), (10, I i)]) (fun i w' => (i ≤ r.length ∧ rowAtC cols r i = rowAtC cols r 0) ∧ Sep w noB [] w') (fun i _ => r.length - i) 0 ⟨rfl, rfl, rfl, rfl, trivial⟩ ⟨⟨Nat.zero_le _, rfl⟩, H⟩ (fun i τ w6 hI => ?_)))
  obtain ⟨⟨hi, hst⟩, H6⟩ := hI
  try simp only [upds, like, upd_ds, und_ds]
  refine Sr (Vl ?_)
  refine Qn (FW_seq (Cp rfl (fun hc8 => ?_) (fun hc8 => ?_)))
  · have hlt : i < r.length := by omega
    obtain ⟨c, hcg⟩ := get_some hlt
    obtain ⟨a, ha⟩ := get_some (l := cols) (i := i) (by omega)
    rw [rowAtC_step ha hcg] at hst
    refine Sk (FW_seq (FW_block (Sr (Mv ?_))))
    refine Vv (Gives.idxR rfl rfl (by assumption) (by omega)) (Vv (Gives.loadE0 rfl H6 (by assumption) (by assumption)) ?_)
    refine FL_alloc H6 (h := fun b6 w14 H14 k13 => ?_)
    refine Am ?_
    refine FL_storeAll H14 (h := fun w17 H17 => ?_)
    refine Nx (Mv ?_)
    refine Mv ?_
    refine FL_loadAll H17 (h := ?_)
    refine FL_callV (fs := fs) (cs := cs) (vals := [I i, agg (cellCells c)]) rfl (hcall i a c _ ha hcg H17.kept) rfl rfl (fun v' w22 hv => ?_)
    obtain ⟨rfl, hkk⟩ := hv
    have H22 := H17.keep hkk
    refine Am ?_
    refine Nx (Mv ?_)
    refine Vn ?_
    refine Qn (Cp rfl (fun hc26 => ?_) (fun hc26 => ?_))
    · rw [if_pos hc26] at hst
      refine Sr (Mv ?_)
      refine Am ?_
      refine Qn (Rb (Qround_ret (Qblk_ret (Qseq_ret (Qfn_ret (hR := ?_))))))
      exact ⟨by rw [← hst]; rfl, H22.kept⟩
    rw [if_neg hc26] at hst
    refine FW_skip (Qblk_normal (Qseq_normal (FW_region (Vv (Gives.addI rfl rfl rfl (by omega)) ?_))))
    refine Mv ?_
    refine FL_nil ?_
    exact Qround_normal (i + 1) ⟨rfl, rfl, rfl, rfl, trivial⟩ ⟨⟨by omega, hst⟩, H22.drop0⟩ (by omega)
  rw [rowAtC_end (by omega)] at hst
  refine FW_exit (Qseq_exit (Qround_exit (Qblk_exit (Qseq_normal (Sr (Am ?_))))))
  refine Qn (FW_ret (Qfn_ret (hR := ?_)))
  exact ⟨by rw [← hst]; rfl, H6.kept⟩
theorem rowCheckE_ok {cols : List ColM} {r : List CellM} {vc vr : Value} (hc : RowIn w vc colCells 7 cols) (hr : RowIn w vr cellCells 3 r) (hf : RowFits r) (hT : TabsU w) : Rets Tryz.prog 50 [vc, vr] w fun v w' => v = I (rowCheck cols r) ∧ Kept noB w w' := by
 have hcc := hc
 have hrr := hr
 obtain ⟨A, m, rfl, ⟨hm, hm'⟩, hA⟩ := hc
 obtain ⟨C, n, rfl, ⟨hn, hn'⟩, hC⟩ := hr
 have H := Sep.start0 w
 refine rets2 Tryz.func50 rfl rfl rfl rfl ?_
 refine Sr (FL_box H (cs := [.slice A cols.length m]) rfl (h := fun b0 w2 H2 k0 => ?_))
 refine Am ?_
 refine Qn (FW_seq (Sr (Ld H2 ?_)))
 refine Vs ?_
 refine Mv ?_
 refine Vs ?_
 refine Vn ?_
 refine Qn (Cp rfl (fun hc9 => ?_) (fun hc9 => ?_))
 ·have hne := hc9
  refine Sr (Am ?_)
  refine Qn (Rs (Qfn_ret (hR := ?_)))
  exact ⟨by unfold rowCheck; rw [if_pos (by omega)]; rfl, H2.kept⟩
 have hlen : cols.length = r.length := by omega
 refine Sk (Sr (Mv ?_))
 refine Vv (Gives.makeFunc rfl rfl) ?_
 have hb0 := H2.obj At0
 refine FL_callQ H2 (first_ok (f := 91) (fs := []) (cs := [.pointer (some ⟨b0, 0, none⟩)]) (hrr.keep H2.kept) hlen (fun i a c w' ha hcg hk => check1_ok c (hk.get hb0 id) ((hcc.keep H2.kept).keep hk) ha (hf c (List.mem_of_getElem? hcg)) ((hT.keep H2.kept).keep hk))) (h := fun w17 H17 k16 => ?_)
 refine Am ?_
 refine Qn (FW_ret (Qfn_ret (hR := ?_)))
 exact ⟨by rw [rowCheck_at hlen]; rfl, H17.kept⟩
end
end Go.Proofs.YtmkaahkbhdlniaaGreatDoor
