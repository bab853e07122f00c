/-
 What a step makes of cells, walked.
-/
import Derived.Test.YtmkaahkbhdlniaaGreatDoorAg13
set_option linter.unusedVariables false
set_option linter.unusedSimpArgs false
namespace Go.Proofs.YtmkaahkbhdlniaaGreatDoor
open Go Go.Mw Go.Lib
set_option maxRecDepth 4000
attribute [local irreducible] flagC cmpC logicC
theorem reck_made {k : Int} {a b : CellM} (h7 : 7 ≤ k) (h18 : k ≤ 18) (h1 : ¬ (k = 13 ∨ k = 14 ∨ k = 15)) (h2 : ¬ k = 16) (h3 : ¬ k = 17) (h4 : ¬ (a.null = true ∨ b.null = true)) (h5 : ¬ k = 11) (h6 : ¬ k = 12) (h8 : ¬ k = 18) : madeC k a b = numG (reckS k a.n b.n) := by
 unfold madeC numG reckS
 rw [if_neg h1, if_neg h2, if_neg h3, if_neg h4, if_neg h5, if_neg h6, if_neg h8]
section
variable {w : World}
theorem madeE_ok {k : Int} {l : List CellM} {a b : CellM} {vl : Value} (hl : RowIn w vl cellCells 3 l) (hs : Some2 k l a b) (h7 : 7 ≤ k) (h18 : k ≤ 18) (ha : fits a.n) (hb : fits b.n) : Rets Tryz.prog 52 [I k, vl] w fun v w' => (∃ c, v = .tuple #[agg (cellCells c), .bool (madeC k a b).isSome] ∧ ∀ y, madeC k a b = some y → c = y) ∧ Kept noB w w' := by
 have hll := hl
 obtain ⟨A, m, rfl, ⟨hm, hm'⟩, hA⟩ := hl
 have H := Sep.start0 w
 obtain ⟨hga, hgb, hl0⟩ := hs.get
 have hl2 : l.length ≤ 2 := by rcases hs with ⟨rfl, _⟩ | ⟨rfl, _⟩ <;> simp
 obtain ⟨res, hres0⟩ : ∃ res, res = madeC k a b := ⟨_, rfl⟩
 rw [← hres0]
 have hres := hres0
 unfold madeC at hres
 refine retsC2 Tryz.func52 rfl rfl rfl rfl ?_
 refine Sr ?_
 refine FL_alloc H (h := ?_)
 intro b4 w2 H2 k1
 refine Am ?_
 refine Qn ?_
 refine FW_cut (fun z : Nat × Nat => [(0, I k), (1, .slice A l.length m), (4, .pointer (some ⟨b4, 0, none⟩)), (6, .pointer (some ⟨z.1, 0, none⟩)), (7, .pointer (some ⟨z.2, 0, none⟩))]) (fun z w' => Sep w noB [blk z.2 (cellCells b) 34, blk z.1 (cellCells a) 34, blk b4 (cellCells cell0) 34] w') ?_ ?_
 ·refine FW_drawS rfl H2 (h := fun hok5 w7 H7 => ?_)
  refine FGmove hok5 0 (h := ?_)
  refine FGp hok5 1 rfl rfl (fun _ => (Gives.idxR (i := 0) rfl rfl hA hl0)) (by kernel_rfl) ?_
  refine FGl hok5 2 rfl rfl (Gives.loadE0 (i := 0) rfl H7 hA hga) (by kernel_rfl) ?_
  refine FGmove hok5 3 (h := ?_)
  refine FGmove hok5 4 (h := ?_)
  refine FGp hok5 5 rfl rfl (fun _ => (Gives.lenSlice rfl)) (by kernel_rfl) ?_
  refine FGp hok5 6 rfl rfl (fun _ => (Gives.subI (c := ((l.length - 1 : Nat) : Int)) rfl rfl (by omega) (by omega))) (by kernel_rfl) ?_
  refine FGp hok5 7 rfl rfl (fun _ => (Gives.idxR rfl rfl (by assumption) (by omega))) (by kernel_rfl) ?_
  refine FGl hok5 8 rfl rfl (Gives.loadE0 (i := l.length - 1) rfl H7 hA hgb) (by kernel_rfl) ?_
  refine FG_two hok5 (e1 := 9) (e2 := 10) (by kernel_rfl) ?_ ?_
  ·refine step_alloc hok5 9 [(8, false), (7, true), (6, true), (5, true), (4, true), (3, true), (2, false), (1, true), (0, true)] H7 (h := fun b6 w15 H15 => ⟨(Stab_cons rfl (by kernel_rfl) (Gives.loadE0 (i := l.length - 1) rfl H15 hA hgb) rfl (Stab_pure (Stab_pure (Stab_pure (Stab_pure (Stab_pure ((Stab_cons rfl (by kernel_rfl) (Gives.loadE0 (i := 0) rfl H15 hA hga) rfl (Stab_pure (Stab_pure (Stab_nil))))))))))), ?_⟩)
   refine FGalloc hok5 10 [(8, false), (7, true), (6, true), (5, true), (4, true), (3, true), (2, false), (1, true), (0, true)] H15 (h := fun b7 w17 H17 => ⟨(Stab_cons rfl (by kernel_rfl) (Gives.loadE0 (i := l.length - 1) rfl H17 hA hgb) rfl (Stab_pure (Stab_pure (Stab_pure (Stab_pure (Stab_pure ((Stab_cons rfl (by kernel_rfl) (Gives.loadE0 (i := 0) rfl H17 hA hga) rfl (Stab_pure (Stab_pure (Stab_nil))))))))))), ?_⟩)
   refine FGstoreAll hok5 11 [(8, false), (7, true), (6, true), (5, true), (4, true), (3, true)] H17 (h := fun w19 H19 => ⟨(Stab_cons rfl (by kernel_rfl) (Gives.loadE0 (i := l.length - 1) rfl H19 hA hgb) rfl (Stab_pure (Stab_pure (Stab_pure (Stab_pure (Stab_pure (Stab_nil))))))), ?_⟩)
   refine FGstoreAll hok5 12 [] H19 (h := fun w21 H21 => ⟨Stab_nil, ?_⟩)
   refine FG_end hok5 (by kernel_rfl) ?_
   exact Qcut_normal (b6, b7) ⟨rfl, rfl, rfl, rfl, rfl, trivial⟩ H21
  ·refine step_alloc hok5 10 [(8, false), (7, true), (6, true), (5, true), (4, true), (3, true), (2, false), (1, true), (0, true)] H7 (h := fun b7 w24 H24 => ⟨(Stab_cons rfl (by kernel_rfl) (Gives.loadE0 (i := l.length - 1) rfl H24 hA hgb) rfl (Stab_pure (Stab_pure (Stab_pure (Stab_pure (Stab_pure ((Stab_cons rfl (by kernel_rfl) (Gives.loadE0 (i := 0) rfl H24 hA hga) rfl (Stab_pure (Stab_pure (Stab_nil))))))))))), ?_⟩)
   refine FGalloc hok5 9 [(8, false), (7, true), (6, true), (5, true), (4, true), (3, true), (2, false), (1, true), (0, true)] H24 (h := fun b6 w26 H26 => ⟨(Stab_cons rfl (by kernel_rfl) (Gives.loadE0 (i := l.length - 1) rfl H26 hA hgb) rfl (Stab_pure (Stab_pure (Stab_pure (Stab_pure (Stab_pure ((Stab_cons rfl (by kernel_rfl) (Gives.loadE0 (i := 0) rfl H26 hA hga) rfl (Stab_pure (Stab_pure (Stab_nil))))))))))), ?_⟩)
   refine FGstoreAll hok5 11 [(8, false), (7, true), (6, true), (5, true), (4, true), (3, true)] H26 (h := fun w28 H28 => ⟨(Stab_cons rfl (by kernel_rfl) (Gives.loadE0 (i := l.length - 1) rfl H28 hA hgb) rfl (Stab_pure (Stab_pure (Stab_pure (Stab_pure (Stab_pure (Stab_nil))))))), ?_⟩)
   refine FGstoreAll hok5 12 [] H28 (h := fun w30 H30 => ⟨Stab_nil, ?_⟩)
   refine FG_end hok5 (by kernel_rfl) ?_
   exact Qcut_normal (b6, b7) ⟨rfl, rfl, rfl, rfl, rfl, trivial⟩ H30.front1
 ·rintro ⟨b6, b7⟩ τ w33 H33
  dsimp only at H33
  simp only [upds, like, upd_ds, und_ds]
  refine FW_seq ?_
  refine FW_block ?_
  refine Sr ?_
  refine Mv ?_
  refine Ve ?_
  refine Mv ?_
  refine FL_splitP (t := 23) rfl (fun hs37 => ?_) (fun hs37 => ?_)
  ·refine Of ?_
   refine Of ?_
   refine Pt ?_
   refine Mv ?_
   refine Of ?_
   refine Of ?_
   refine Pt ?_
   refine Am ?_
   refine Qn ?_
   refine FW_cond_true rfl ?_
   refine Sr ?_
   refine Mv ?_
   refine Mv ?_
   refine FL_callQ H33 (logicE_ok (hll.keep H33.kept) hs) (h := fun w45 H45 k44 => ?_)
   refine FL_storeAll H45 (h := ?_)
   intro w47 H47
   refine Am ?_
   refine Qn ?_
   refine Rb (QfnC_ret (h := ?_))
   exact ⟨_, resC2 H47, made_outS (by rw [hres, if_pos (by omega)]), H47.kept⟩
  ·refine On ?_
   refine Mv ?_
   refine On ?_
   refine Ve ?_
   refine Pf ?_
   refine Mv ?_
   refine FL_splitP (t := 27) rfl (fun hs54 => ?_) (fun hs54 => ?_)
   ·refine Of ?_
    refine Of ?_
    refine Pt ?_
    refine Am ?_
    refine Qn ?_
    refine FW_cond_true rfl ?_
    refine Sr ?_
    refine Mv ?_
    refine Mv ?_
    refine FL_callQ H33 (logicE_ok (hll.keep H33.kept) hs) (h := fun w60 H60 k59 => ?_)
    refine FL_storeAll H60 (h := ?_)
    intro w62 H62
    refine Am ?_
    refine Qn ?_
    refine Rb (QfnC_ret (h := ?_))
    exact ⟨_, resC2 H62, made_outS (by rw [hres, if_pos (by omega)]), H62.kept⟩
   ·refine On ?_
    refine Mv ?_
    refine On ?_
    refine Ve ?_
    refine Pf ?_
    refine Am ?_
    refine Qn ?_
    refine FW_condP rfl (fun hc69 => ?_) (fun hc69 => ?_)
    ·refine Sr ?_
     refine Mv ?_
     refine Mv ?_
     refine FL_callQ H33 (logicE_ok (hll.keep H33.kept) hs) (h := fun w73 H73 k72 => ?_)
     refine FL_storeAll H73 (h := ?_)
     intro w75 H75
     refine Am ?_
     refine Qn ?_
     refine Rb (QfnC_ret (h := ?_))
     exact ⟨_, resC2 H75, made_outS (by rw [hres, if_pos (by omega)]), H75.kept⟩
    ·refine Sr ?_
     refine Mv ?_
     refine Ve ?_
     refine Am ?_
     refine Qn ?_
     refine FW_condP rfl (fun hc81 => ?_) (fun hc81 => ?_)
     ·refine Sr ?_
      refine Vf ?_
      refine Ld H33 ?_
      refine FL_callQ H33 (flagE_ok _) (h := fun w85 H85 k84 => ?_)
      refine FL_storeAll H85 (h := ?_)
      intro w87 H87
      refine Am ?_
      refine Qn ?_
      refine Rb (QfnC_ret (h := ?_))
      exact ⟨_, resC2 H87, made_outS (by rw [hres, if_neg (by omega), if_pos (by omega)]), H87.kept⟩
     ·refine Sr ?_
      refine Mv ?_
      refine Ve ?_
      refine Mv ?_
      refine FL_splitP (t := 43) rfl (fun hs93 => ?_) (fun hs93 => ?_)
      ·refine On ?_
       refine Vf ?_
       refine On ?_
       refine Ld H33 ?_
       refine Pt ?_
       refine Am ?_
       refine Qn ?_
       refine FW_cond rfl (fun hc98 => ?_) (fun hc98 => ?_)
       ·have hnl := hc98
        refine Sr ?_
        refine FL_loadAll H33 (h := ?_)
        refine FL_storeAll H33 (h := ?_)
        intro w102 H102
        refine Am ?_
        refine Qn ?_
        refine Rb (QfnC_ret (h := ?_))
        exact ⟨_, resC2 H102, made_outS (by rw [hres, if_neg (by omega), if_neg (by omega), if_pos (by omega), if_pos hnl]), H102.kept⟩
       ·have hnl := hc98
        refine Sr ?_
        refine Mv ?_
        refine Ve ?_
        refine Am ?_
        refine Qn ?_
        refine FW_condP rfl (fun hc109 => ?_) (fun hc109 => ?_)
        ·refine Sr ?_
         refine FL_loadAll H33 (h := ?_)
         refine FL_storeAll H33 (h := ?_)
         intro w112 H112
         refine Am ?_
         refine Qn ?_
         refine Rb (QfnC_ret (h := ?_))
         exact ⟨_, resC2 H112, made_outS (by rw [hres, if_neg (by omega), if_neg (by omega), if_pos (by omega), if_neg (by simp [hnl])]), H112.kept⟩
        ·refine Sr ?_
         refine Vf ?_
         refine Ld H33 ?_
         refine Mv ?_
         refine FL_split (t := 55) rfl (fun hs118 => ?_) (fun hs118 => ?_)
         ·refine Of ?_
          refine Of ?_
          refine Pt ?_
          refine Am ?_
          refine Qn ?_
          refine FW_cond_true rfl ?_
          refine Sr ?_
          refine FL_val (Gives.build (out := cellCells cellNull) (Fills.one rfl rfl rfl (by simp) rfl Fills.nil)) rfl ?_
          refine FL_storeAll H33 (h := ?_)
          intro w123 H123
          refine Am ?_
          refine Qn ?_
          refine Rb (QfnC_ret (h := ?_))
          (exfalso; omega)
         ·refine On ?_
          refine Vf ?_
          refine On ?_
          refine Ld H33 ?_
          refine Pf ?_
          refine Am ?_
          refine Qn ?_
          refine FW_cond rfl (fun hc130 => ?_) (fun hc130 => ?_)
          ·refine Sr ?_
           refine FL_val (Gives.build (out := cellCells cellNull) (Fills.one rfl rfl rfl (by simp) rfl Fills.nil)) rfl ?_
           refine FL_storeAll H33 (h := ?_)
           intro w133 H133
           refine Am ?_
           refine Qn ?_
           refine Rb (QfnC_ret (h := ?_))
           (exfalso; omega)
          ·have hnn : ¬ (a.null = true ∨ b.null = true) := by simp [*]
           rw [if_neg (by omega), if_neg (by omega), if_neg (by omega), if_neg hnn] at hres
           refine Sr ?_
           refine Mv ?_
           refine Ve ?_
           refine Mv ?_
           refine FL_splitP (t := 63) rfl (fun hs140 => ?_) (fun hs140 => ?_)
           ·refine Of ?_
            refine Of ?_
            refine Pt ?_
            refine Am ?_
            refine Qn ?_
            refine FW_cond_true rfl ?_
            refine Sr ?_
            refine FL_loadAll H33 (h := ?_)
            refine FL_loadAll H33 (h := ?_)
            refine FL_callQ H33 (compareE_ok a b) (h := fun w146 H146 k145 => ?_)
            refine Am ?_
            refine Nx ?_
            refine Mv ?_
            refine Ve ?_
            refine Mv ?_
            refine FL_splitP (t := 72) rfl (fun hs151 => ?_) (fun hs151 => ?_)
            ·refine On ?_
             refine Mv ?_
             refine On ?_
             refine Ve ?_
             refine Pt ?_
             refine Mv ?_
             refine FL_splitP (t := 76) rfl (fun hs156 => ?_) (fun hs156 => ?_)
             ·refine Of ?_
              refine Of ?_
              refine Of ?_
              refine Ou ?_
              refine Ou ?_
              refine Of ?_
              refine Pt ?_
              refine FL_callQ H146 (flagE_ok _) (h := fun w159 H159 k158 => ?_)
              refine FL_storeAll H159 (h := ?_)
              intro w161 H161
              refine Am ?_
              refine Qn ?_
              refine Rb (QfnC_ret (h := ?_))
              first | (exfalso; omega) | exact ⟨_, resC2 H161, made_outS (by
              rw [hres]
              first
              | (rw [if_pos (by omega)]; refine congrArg (fun x => some (flagC x)) ?_; first | exact decide_eq_true (by omega) | exact decide_eq_false (by omega) | exact decide_eq_decide.2 (by omega))
              | (rw [if_neg (by omega), if_pos (by omega)]; refine congrArg (fun x => some (flagC x)) ?_; first | exact decide_eq_true (by omega) | exact decide_eq_false (by omega) | exact decide_eq_decide.2 (by omega))), H161.kept⟩
             ·refine On ?_
              refine Mv ?_
              refine On ?_
              refine Vl ?_
              refine On ?_
              refine Mv ?_
              refine FL_splitP (t := 79) rfl (fun hs167 => ?_) (fun hs167 => ?_)
              ·refine On ?_
               refine Mv ?_
               refine On ?_
               refine Ve ?_
               refine On ?_
               refine Pt ?_
               refine Pf ?_
               refine FL_callQ H146 (flagE_ok _) (h := fun w173 H173 k172 => ?_)
               refine FL_storeAll H173 (h := ?_)
               intro w175 H175
               refine Am ?_
               refine Qn ?_
               refine Rb (QfnC_ret (h := ?_))
               first | (exfalso; omega) | exact ⟨_, resC2 H175, made_outS (by
               rw [hres]
               first
               | (rw [if_pos (by omega)]; refine congrArg (fun x => some (flagC x)) ?_; first | exact decide_eq_true (by omega) | exact decide_eq_false (by omega) | exact decide_eq_decide.2 (by omega))
               | (rw [if_neg (by omega), if_pos (by omega)]; refine congrArg (fun x => some (flagC x)) ?_; first | exact decide_eq_true (by omega) | exact decide_eq_false (by omega) | exact decide_eq_decide.2 (by omega))), H175.kept⟩
              ·refine Of ?_
               refine Of ?_
               refine On ?_
               refine Pf ?_
               refine Pf ?_
               refine FL_callQ H146 (flagE_ok _) (h := fun w181 H181 k180 => ?_)
               refine FL_storeAll H181 (h := ?_)
               intro w183 H183
               refine Am ?_
               refine Qn ?_
               refine Rb (QfnC_ret (h := ?_))
               first | (exfalso; omega) | exact ⟨_, resC2 H183, made_outS (by
               rw [hres]
               first
               | (rw [if_pos (by omega)]; refine congrArg (fun x => some (flagC x)) ?_; first | exact decide_eq_true (by omega) | exact decide_eq_false (by omega) | exact decide_eq_decide.2 (by omega))
               | (rw [if_neg (by omega), if_pos (by omega)]; refine congrArg (fun x => some (flagC x)) ?_; first | exact decide_eq_true (by omega) | exact decide_eq_false (by omega) | exact decide_eq_decide.2 (by omega))), H183.kept⟩
            ·refine Of ?_
             refine Of ?_
             refine Pf ?_
             refine Mv ?_
             refine On ?_
             refine Mv ?_
             refine On ?_
             refine Vl ?_
             refine On ?_
             refine Mv ?_
             refine FL_splitP (t := 79) rfl (fun hs191 => ?_) (fun hs191 => ?_)
             ·refine On ?_
              refine Mv ?_
              refine On ?_
              refine Ve ?_
              refine On ?_
              refine Pt ?_
              refine Pf ?_
              refine FL_callQ H146 (flagE_ok _) (h := fun w197 H197 k196 => ?_)
              refine FL_storeAll H197 (h := ?_)
              intro w199 H199
              refine Am ?_
              refine Qn ?_
              refine Rb (QfnC_ret (h := ?_))
              first | (exfalso; omega) | exact ⟨_, resC2 H199, made_outS (by
              rw [hres]
              first
              | (rw [if_pos (by omega)]; refine congrArg (fun x => some (flagC x)) ?_; first | exact decide_eq_true (by omega) | exact decide_eq_false (by omega) | exact decide_eq_decide.2 (by omega))
              | (rw [if_neg (by omega), if_pos (by omega)]; refine congrArg (fun x => some (flagC x)) ?_; first | exact decide_eq_true (by omega) | exact decide_eq_false (by omega) | exact decide_eq_decide.2 (by omega))), H199.kept⟩
             ·refine Of ?_
              refine Of ?_
              refine On ?_
              refine Pf ?_
              refine Pf ?_
              refine FL_callQ H146 (flagE_ok _) (h := fun w205 H205 k204 => ?_)
              refine FL_storeAll H205 (h := ?_)
              intro w207 H207
              refine Am ?_
              refine Qn ?_
              refine Rb (QfnC_ret (h := ?_))
              first | (exfalso; omega) | exact ⟨_, resC2 H207, made_outS (by
              rw [hres]
              first
              | (rw [if_pos (by omega)]; refine congrArg (fun x => some (flagC x)) ?_; first | exact decide_eq_true (by omega) | exact decide_eq_false (by omega) | exact decide_eq_decide.2 (by omega))
              | (rw [if_neg (by omega), if_pos (by omega)]; refine congrArg (fun x => some (flagC x)) ?_; first | exact decide_eq_true (by omega) | exact decide_eq_false (by omega) | exact decide_eq_decide.2 (by omega))), H207.kept⟩
           ·refine On ?_
            refine Mv ?_
            refine On ?_
            refine Ve ?_
            refine Pf ?_
            refine Am ?_
            refine Qn ?_
            refine FW_condP rfl (fun hc214 => ?_) (fun hc214 => ?_)
            ·refine Sr ?_
             refine FL_loadAll H33 (h := ?_)
             refine FL_loadAll H33 (h := ?_)
             refine FL_callQ H33 (compareE_ok a b) (h := fun w218 H218 k217 => ?_)
             refine Am ?_
             refine Nx ?_
             refine Mv ?_
             refine Ve ?_
             refine Mv ?_
             refine FL_splitP (t := 72) rfl (fun hs223 => ?_) (fun hs223 => ?_)
             ·refine On ?_
              refine Mv ?_
              refine On ?_
              refine Ve ?_
              refine Pt ?_
              refine Mv ?_
              refine FL_splitP (t := 76) rfl (fun hs228 => ?_) (fun hs228 => ?_)
              ·refine Of ?_
               refine Of ?_
               refine Of ?_
               refine Ou ?_
               refine Ou ?_
               refine Of ?_
               refine Pt ?_
               refine FL_callQ H218 (flagE_ok _) (h := fun w231 H231 k230 => ?_)
               refine FL_storeAll H231 (h := ?_)
               intro w233 H233
               refine Am ?_
               refine Qn ?_
               refine Rb (QfnC_ret (h := ?_))
               first | (exfalso; omega) | exact ⟨_, resC2 H233, made_outS (by
               rw [hres]
               first
               | (rw [if_pos (by omega)]; refine congrArg (fun x => some (flagC x)) ?_; first | exact decide_eq_true (by omega) | exact decide_eq_false (by omega) | exact decide_eq_decide.2 (by omega))
               | (rw [if_neg (by omega), if_pos (by omega)]; refine congrArg (fun x => some (flagC x)) ?_; first | exact decide_eq_true (by omega) | exact decide_eq_false (by omega) | exact decide_eq_decide.2 (by omega))), H233.kept⟩
              ·refine On ?_
               refine Mv ?_
               refine On ?_
               refine Vl ?_
               refine On ?_
               refine Mv ?_
               refine FL_splitP (t := 79) rfl (fun hs239 => ?_) (fun hs239 => ?_)
               ·refine On ?_
                refine Mv ?_
                refine On ?_
                refine Ve ?_
                refine On ?_
                refine Pt ?_
                refine Pf ?_
                refine FL_callQ H218 (flagE_ok _) (h := fun w245 H245 k244 => ?_)
                refine FL_storeAll H245 (h := ?_)
                intro w247 H247
                refine Am ?_
                refine Qn ?_
                refine Rb (QfnC_ret (h := ?_))
                first | (exfalso; omega) | exact ⟨_, resC2 H247, made_outS (by
                rw [hres]
                first
                | (rw [if_pos (by omega)]; refine congrArg (fun x => some (flagC x)) ?_; first | exact decide_eq_true (by omega) | exact decide_eq_false (by omega) | exact decide_eq_decide.2 (by omega))
                | (rw [if_neg (by omega), if_pos (by omega)]; refine congrArg (fun x => some (flagC x)) ?_; first | exact decide_eq_true (by omega) | exact decide_eq_false (by omega) | exact decide_eq_decide.2 (by omega))), H247.kept⟩
               ·refine Of ?_
                refine Of ?_
                refine On ?_
                refine Pf ?_
                refine Pf ?_
                refine FL_callQ H218 (flagE_ok _) (h := fun w253 H253 k252 => ?_)
                refine FL_storeAll H253 (h := ?_)
                intro w255 H255
                refine Am ?_
                refine Qn ?_
                refine Rb (QfnC_ret (h := ?_))
                first | (exfalso; omega) | exact ⟨_, resC2 H255, made_outS (by
                rw [hres]
                first
                | (rw [if_pos (by omega)]; refine congrArg (fun x => some (flagC x)) ?_; first | exact decide_eq_true (by omega) | exact decide_eq_false (by omega) | exact decide_eq_decide.2 (by omega))
                | (rw [if_neg (by omega), if_pos (by omega)]; refine congrArg (fun x => some (flagC x)) ?_; first | exact decide_eq_true (by omega) | exact decide_eq_false (by omega) | exact decide_eq_decide.2 (by omega))), H255.kept⟩
             ·refine Of ?_
              refine Of ?_
              refine Pf ?_
              refine Mv ?_
              refine On ?_
              refine Mv ?_
              refine On ?_
              refine Vl ?_
              refine On ?_
              refine Mv ?_
              refine FL_splitP (t := 79) rfl (fun hs263 => ?_) (fun hs263 => ?_)
              ·refine On ?_
               refine Mv ?_
               refine On ?_
               refine Ve ?_
               refine On ?_
               refine Pt ?_
               refine Pf ?_
               refine FL_callQ H218 (flagE_ok _) (h := fun w269 H269 k268 => ?_)
               refine FL_storeAll H269 (h := ?_)
               intro w271 H271
               refine Am ?_
               refine Qn ?_
               refine Rb (QfnC_ret (h := ?_))
               first | (exfalso; omega) | exact ⟨_, resC2 H271, made_outS (by
               rw [hres]
               first
               | (rw [if_pos (by omega)]; refine congrArg (fun x => some (flagC x)) ?_; first | exact decide_eq_true (by omega) | exact decide_eq_false (by omega) | exact decide_eq_decide.2 (by omega))
               | (rw [if_neg (by omega), if_pos (by omega)]; refine congrArg (fun x => some (flagC x)) ?_; first | exact decide_eq_true (by omega) | exact decide_eq_false (by omega) | exact decide_eq_decide.2 (by omega))), H271.kept⟩
              ·refine Of ?_
               refine Of ?_
               refine On ?_
               refine Pf ?_
               refine Pf ?_
               refine FL_callQ H218 (flagE_ok _) (h := fun w277 H277 k276 => ?_)
               refine FL_storeAll H277 (h := ?_)
               intro w279 H279
               refine Am ?_
               refine Qn ?_
               refine Rb (QfnC_ret (h := ?_))
               first | (exfalso; omega) | exact ⟨_, resC2 H279, made_outS (by
               rw [hres]
               first
               | (rw [if_pos (by omega)]; refine congrArg (fun x => some (flagC x)) ?_; first | exact decide_eq_true (by omega) | exact decide_eq_false (by omega) | exact decide_eq_decide.2 (by omega))
               | (rw [if_neg (by omega), if_pos (by omega)]; refine congrArg (fun x => some (flagC x)) ?_; first | exact decide_eq_true (by omega) | exact decide_eq_false (by omega) | exact decide_eq_decide.2 (by omega))), H279.kept⟩
            ·refine Sr ?_
             refine Mv ?_
             refine Ve ?_
             refine Am ?_
             refine Qn ?_
             refine FW_condP rfl (fun hc285 => ?_) (fun hc285 => ?_)
             ·refine Sr ?_
              refine Vf ?_
              refine Ld H33 ?_
              refine Vt ?_
              refine FL_val (Gives.build (out := cellCells ⟨false, (a.s.length : Int), []⟩) (Fills.one rfl rfl rfl (by simp) rfl Fills.nil)) rfl ?_
              refine FL_storeAll H33 (h := ?_)
              intro w291 H291
              refine Am ?_
              refine Qn ?_
              refine Rb (QfnC_ret (h := ?_))
              (exfalso; omega)
             ·refine FW_skip (Qblk_normal (Qseq_normal ?_))
              refine Sr ?_
              refine Mv ?_
              refine Vf ?_
              refine Ld H33 ?_
              refine Vf ?_
              refine Ld H33 ?_
              refine FL_call (reckon_ok k a.n b.n ha hb) rfl rfl (fun v' w300 hv => ?_)
              obtain ⟨⟨cp, rfl, hcp⟩, hkk⟩ := hv
              have H300 := H33.keep hkk
              refine Mv ?_
              refine Vx ?_
              refine Vx ?_
              refine Am ?_
              refine Am ?_
              refine Nx ?_
              refine Mv ?_
              refine FL_val (Gives.build (out := cellCells ⟨false, cp, []⟩) (Fills.one rfl rfl rfl (by simp) rfl Fills.nil)) rfl ?_
              refine Mv ?_
              refine FL_storeAll H300 (h := ?_)
              intro w310 H310
              refine Am ?_
              refine Qn ?_
              refine FW_ret (QfnC_ret (h := ?_))
              (exfalso; omega)
      ·refine Of ?_
       refine Of ?_
       refine Pf ?_
       refine Am ?_
       refine Qn ?_
       refine FW_cond_false rfl ?_
       refine Sr ?_
       refine Mv ?_
       refine Ve ?_
       refine Am ?_
       refine Qn ?_
       refine FW_condP rfl (fun hc318 => ?_) (fun hc318 => ?_)
       ·refine Sr ?_
        refine FL_loadAll H33 (h := ?_)
        refine FL_storeAll H33 (h := ?_)
        intro w321 H321
        refine Am ?_
        refine Qn ?_
        refine Rb (QfnC_ret (h := ?_))
        (exfalso; omega)
       ·refine Sr ?_
        refine Vf ?_
        refine Ld H33 ?_
        refine Mv ?_
        refine FL_split (t := 55) rfl (fun hs327 => ?_) (fun hs327 => ?_)
        ·refine Of ?_
         refine Of ?_
         refine Pt ?_
         refine Am ?_
         refine Qn ?_
         refine FW_cond_true rfl ?_
         refine Sr ?_
         refine FL_val (Gives.build (out := cellCells cellNull) (Fills.one rfl rfl rfl (by simp) rfl Fills.nil)) rfl ?_
         refine FL_storeAll H33 (h := ?_)
         intro w332 H332
         refine Am ?_
         refine Qn ?_
         refine Rb (QfnC_ret (h := ?_))
         exact ⟨_, resC2 H332, made_outS (by rw [hres, if_neg (by omega), if_neg (by omega), if_neg (by omega), if_pos (by simp [*])]), H332.kept⟩
        ·refine On ?_
         refine Vf ?_
         refine On ?_
         refine Ld H33 ?_
         refine Pf ?_
         refine Am ?_
         refine Qn ?_
         refine FW_cond rfl (fun hc339 => ?_) (fun hc339 => ?_)
         ·refine Sr ?_
          refine FL_val (Gives.build (out := cellCells cellNull) (Fills.one rfl rfl rfl (by simp) rfl Fills.nil)) rfl ?_
          refine FL_storeAll H33 (h := ?_)
          intro w342 H342
          refine Am ?_
          refine Qn ?_
          refine Rb (QfnC_ret (h := ?_))
          exact ⟨_, resC2 H342, made_outS (by rw [hres, if_neg (by omega), if_neg (by omega), if_neg (by omega), if_pos (by simp [*])]), H342.kept⟩
         ·have hnn : ¬ (a.null = true ∨ b.null = true) := by simp [*]
          rw [if_neg (by omega), if_neg (by omega), if_neg (by omega), if_neg hnn] at hres
          refine Sr ?_
          refine Mv ?_
          refine Ve ?_
          refine Mv ?_
          refine FL_splitP (t := 63) rfl (fun hs349 => ?_) (fun hs349 => ?_)
          ·refine Of ?_
           refine Of ?_
           refine Pt ?_
           refine Am ?_
           refine Qn ?_
           refine FW_cond_true rfl ?_
           refine Sr ?_
           refine FL_loadAll H33 (h := ?_)
           refine FL_loadAll H33 (h := ?_)
           refine FL_callQ H33 (compareE_ok a b) (h := fun w355 H355 k354 => ?_)
           refine Am ?_
           refine Nx ?_
           refine Mv ?_
           refine Ve ?_
           refine Mv ?_
           refine FL_splitP (t := 72) rfl (fun hs360 => ?_) (fun hs360 => ?_)
           ·refine On ?_
            refine Mv ?_
            refine On ?_
            refine Ve ?_
            refine Pt ?_
            refine Mv ?_
            refine FL_splitP (t := 76) rfl (fun hs365 => ?_) (fun hs365 => ?_)
            ·refine Of ?_
             refine Of ?_
             refine Of ?_
             refine Ou ?_
             refine Ou ?_
             refine Of ?_
             refine Pt ?_
             refine FL_callQ H355 (flagE_ok _) (h := fun w368 H368 k367 => ?_)
             refine FL_storeAll H368 (h := ?_)
             intro w370 H370
             refine Am ?_
             refine Qn ?_
             refine Rb (QfnC_ret (h := ?_))
             first | (exfalso; omega) | exact ⟨_, resC2 H370, made_outS (by
             rw [hres]
             first
             | (rw [if_pos (by omega)]; refine congrArg (fun x => some (flagC x)) ?_; first | exact decide_eq_true (by omega) | exact decide_eq_false (by omega) | exact decide_eq_decide.2 (by omega))
             | (rw [if_neg (by omega), if_pos (by omega)]; refine congrArg (fun x => some (flagC x)) ?_; first | exact decide_eq_true (by omega) | exact decide_eq_false (by omega) | exact decide_eq_decide.2 (by omega))), H370.kept⟩
            ·refine On ?_
             refine Mv ?_
             refine On ?_
             refine Vl ?_
             refine On ?_
             refine Mv ?_
             refine FL_splitP (t := 79) rfl (fun hs376 => ?_) (fun hs376 => ?_)
             ·refine On ?_
              refine Mv ?_
              refine On ?_
              refine Ve ?_
              refine On ?_
              refine Pt ?_
              refine Pf ?_
              refine FL_callQ H355 (flagE_ok _) (h := fun w382 H382 k381 => ?_)
              refine FL_storeAll H382 (h := ?_)
              intro w384 H384
              refine Am ?_
              refine Qn ?_
              refine Rb (QfnC_ret (h := ?_))
              first | (exfalso; omega) | exact ⟨_, resC2 H384, made_outS (by
              rw [hres]
              first
              | (rw [if_pos (by omega)]; refine congrArg (fun x => some (flagC x)) ?_; first | exact decide_eq_true (by omega) | exact decide_eq_false (by omega) | exact decide_eq_decide.2 (by omega))
              | (rw [if_neg (by omega), if_pos (by omega)]; refine congrArg (fun x => some (flagC x)) ?_; first | exact decide_eq_true (by omega) | exact decide_eq_false (by omega) | exact decide_eq_decide.2 (by omega))), H384.kept⟩
             ·refine Of ?_
              refine Of ?_
              refine On ?_
              refine Pf ?_
              refine Pf ?_
              refine FL_callQ H355 (flagE_ok _) (h := fun w390 H390 k389 => ?_)
              refine FL_storeAll H390 (h := ?_)
              intro w392 H392
              refine Am ?_
              refine Qn ?_
              refine Rb (QfnC_ret (h := ?_))
              first | (exfalso; omega) | exact ⟨_, resC2 H392, made_outS (by
              rw [hres]
              first
              | (rw [if_pos (by omega)]; refine congrArg (fun x => some (flagC x)) ?_; first | exact decide_eq_true (by omega) | exact decide_eq_false (by omega) | exact decide_eq_decide.2 (by omega))
              | (rw [if_neg (by omega), if_pos (by omega)]; refine congrArg (fun x => some (flagC x)) ?_; first | exact decide_eq_true (by omega) | exact decide_eq_false (by omega) | exact decide_eq_decide.2 (by omega))), H392.kept⟩
           ·refine Of ?_
            refine Of ?_
            refine Pf ?_
            refine Mv ?_
            refine On ?_
            refine Mv ?_
            refine On ?_
            refine Vl ?_
            refine On ?_
            refine Mv ?_
            refine FL_splitP (t := 79) rfl (fun hs400 => ?_) (fun hs400 => ?_)
            ·refine On ?_
             refine Mv ?_
             refine On ?_
             refine Ve ?_
             refine On ?_
             refine Pt ?_
             refine Pf ?_
             refine FL_callQ H355 (flagE_ok _) (h := fun w406 H406 k405 => ?_)
             refine FL_storeAll H406 (h := ?_)
             intro w408 H408
             refine Am ?_
             refine Qn ?_
             refine Rb (QfnC_ret (h := ?_))
             first | (exfalso; omega) | exact ⟨_, resC2 H408, made_outS (by
             rw [hres]
             first
             | (rw [if_pos (by omega)]; refine congrArg (fun x => some (flagC x)) ?_; first | exact decide_eq_true (by omega) | exact decide_eq_false (by omega) | exact decide_eq_decide.2 (by omega))
             | (rw [if_neg (by omega), if_pos (by omega)]; refine congrArg (fun x => some (flagC x)) ?_; first | exact decide_eq_true (by omega) | exact decide_eq_false (by omega) | exact decide_eq_decide.2 (by omega))), H408.kept⟩
            ·refine Of ?_
             refine Of ?_
             refine On ?_
             refine Pf ?_
             refine Pf ?_
             refine FL_callQ H355 (flagE_ok _) (h := fun w414 H414 k413 => ?_)
             refine FL_storeAll H414 (h := ?_)
             intro w416 H416
             refine Am ?_
             refine Qn ?_
             refine Rb (QfnC_ret (h := ?_))
             first | (exfalso; omega) | exact ⟨_, resC2 H416, made_outS (by
             rw [hres]
             first
             | (rw [if_pos (by omega)]; refine congrArg (fun x => some (flagC x)) ?_; first | exact decide_eq_true (by omega) | exact decide_eq_false (by omega) | exact decide_eq_decide.2 (by omega))
             | (rw [if_neg (by omega), if_pos (by omega)]; refine congrArg (fun x => some (flagC x)) ?_; first | exact decide_eq_true (by omega) | exact decide_eq_false (by omega) | exact decide_eq_decide.2 (by omega))), H416.kept⟩
          ·refine On ?_
           refine Mv ?_
           refine On ?_
           refine Ve ?_
           refine Pf ?_
           refine Am ?_
           refine Qn ?_
           refine FW_condP rfl (fun hc423 => ?_) (fun hc423 => ?_)
           ·refine Sr ?_
            refine FL_loadAll H33 (h := ?_)
            refine FL_loadAll H33 (h := ?_)
            refine FL_callQ H33 (compareE_ok a b) (h := fun w427 H427 k426 => ?_)
            refine Am ?_
            refine Nx ?_
            refine Mv ?_
            refine Ve ?_
            refine Mv ?_
            refine FL_splitP (t := 72) rfl (fun hs432 => ?_) (fun hs432 => ?_)
            ·refine On ?_
             refine Mv ?_
             refine On ?_
             refine Ve ?_
             refine Pt ?_
             refine Mv ?_
             refine FL_splitP (t := 76) rfl (fun hs437 => ?_) (fun hs437 => ?_)
             ·refine Of ?_
              refine Of ?_
              refine Of ?_
              refine Ou ?_
              refine Ou ?_
              refine Of ?_
              refine Pt ?_
              refine FL_callQ H427 (flagE_ok _) (h := fun w440 H440 k439 => ?_)
              refine FL_storeAll H440 (h := ?_)
              intro w442 H442
              refine Am ?_
              refine Qn ?_
              refine Rb (QfnC_ret (h := ?_))
              first | (exfalso; omega) | exact ⟨_, resC2 H442, made_outS (by
              rw [hres]
              first
              | (rw [if_pos (by omega)]; refine congrArg (fun x => some (flagC x)) ?_; first | exact decide_eq_true (by omega) | exact decide_eq_false (by omega) | exact decide_eq_decide.2 (by omega))
              | (rw [if_neg (by omega), if_pos (by omega)]; refine congrArg (fun x => some (flagC x)) ?_; first | exact decide_eq_true (by omega) | exact decide_eq_false (by omega) | exact decide_eq_decide.2 (by omega))), H442.kept⟩
             ·refine On ?_
              refine Mv ?_
              refine On ?_
              refine Vl ?_
              refine On ?_
              refine Mv ?_
              refine FL_splitP (t := 79) rfl (fun hs448 => ?_) (fun hs448 => ?_)
              ·refine On ?_
               refine Mv ?_
               refine On ?_
               refine Ve ?_
               refine On ?_
               refine Pt ?_
               refine Pf ?_
               refine FL_callQ H427 (flagE_ok _) (h := fun w454 H454 k453 => ?_)
               refine FL_storeAll H454 (h := ?_)
               intro w456 H456
               refine Am ?_
               refine Qn ?_
               refine Rb (QfnC_ret (h := ?_))
               first | (exfalso; omega) | exact ⟨_, resC2 H456, made_outS (by
               rw [hres]
               first
               | (rw [if_pos (by omega)]; refine congrArg (fun x => some (flagC x)) ?_; first | exact decide_eq_true (by omega) | exact decide_eq_false (by omega) | exact decide_eq_decide.2 (by omega))
               | (rw [if_neg (by omega), if_pos (by omega)]; refine congrArg (fun x => some (flagC x)) ?_; first | exact decide_eq_true (by omega) | exact decide_eq_false (by omega) | exact decide_eq_decide.2 (by omega))), H456.kept⟩
              ·refine Of ?_
               refine Of ?_
               refine On ?_
               refine Pf ?_
               refine Pf ?_
               refine FL_callQ H427 (flagE_ok _) (h := fun w462 H462 k461 => ?_)
               refine FL_storeAll H462 (h := ?_)
               intro w464 H464
               refine Am ?_
               refine Qn ?_
               refine Rb (QfnC_ret (h := ?_))
               first | (exfalso; omega) | exact ⟨_, resC2 H464, made_outS (by
               rw [hres]
               first
               | (rw [if_pos (by omega)]; refine congrArg (fun x => some (flagC x)) ?_; first | exact decide_eq_true (by omega) | exact decide_eq_false (by omega) | exact decide_eq_decide.2 (by omega))
               | (rw [if_neg (by omega), if_pos (by omega)]; refine congrArg (fun x => some (flagC x)) ?_; first | exact decide_eq_true (by omega) | exact decide_eq_false (by omega) | exact decide_eq_decide.2 (by omega))), H464.kept⟩
            ·refine Of ?_
             refine Of ?_
             refine Pf ?_
             refine Mv ?_
             refine On ?_
             refine Mv ?_
             refine On ?_
             refine Vl ?_
             refine On ?_
             refine Mv ?_
             refine FL_splitP (t := 79) rfl (fun hs472 => ?_) (fun hs472 => ?_)
             ·refine On ?_
              refine Mv ?_
              refine On ?_
              refine Ve ?_
              refine On ?_
              refine Pt ?_
              refine Pf ?_
              refine FL_callQ H427 (flagE_ok _) (h := fun w478 H478 k477 => ?_)
              refine FL_storeAll H478 (h := ?_)
              intro w480 H480
              refine Am ?_
              refine Qn ?_
              refine Rb (QfnC_ret (h := ?_))
              first | (exfalso; omega) | exact ⟨_, resC2 H480, made_outS (by
              rw [hres]
              first
              | (rw [if_pos (by omega)]; refine congrArg (fun x => some (flagC x)) ?_; first | exact decide_eq_true (by omega) | exact decide_eq_false (by omega) | exact decide_eq_decide.2 (by omega))
              | (rw [if_neg (by omega), if_pos (by omega)]; refine congrArg (fun x => some (flagC x)) ?_; first | exact decide_eq_true (by omega) | exact decide_eq_false (by omega) | exact decide_eq_decide.2 (by omega))), H480.kept⟩
             ·refine Of ?_
              refine Of ?_
              refine On ?_
              refine Pf ?_
              refine Pf ?_
              refine FL_callQ H427 (flagE_ok _) (h := fun w486 H486 k485 => ?_)
              refine FL_storeAll H486 (h := ?_)
              intro w488 H488
              refine Am ?_
              refine Qn ?_
              refine Rb (QfnC_ret (h := ?_))
              first | (exfalso; omega) | exact ⟨_, resC2 H488, made_outS (by
              rw [hres]
              first
              | (rw [if_pos (by omega)]; refine congrArg (fun x => some (flagC x)) ?_; first | exact decide_eq_true (by omega) | exact decide_eq_false (by omega) | exact decide_eq_decide.2 (by omega))
              | (rw [if_neg (by omega), if_pos (by omega)]; refine congrArg (fun x => some (flagC x)) ?_; first | exact decide_eq_true (by omega) | exact decide_eq_false (by omega) | exact decide_eq_decide.2 (by omega))), H488.kept⟩
           ·refine Sr ?_
            refine Mv ?_
            refine Ve ?_
            refine Am ?_
            refine Qn ?_
            refine FW_condP rfl (fun hc494 => ?_) (fun hc494 => ?_)
            ·refine Sr ?_
             refine Vf ?_
             refine Ld H33 ?_
             refine Vt ?_
             refine FL_val (Gives.build (out := cellCells ⟨false, (a.s.length : Int), []⟩) (Fills.one rfl rfl rfl (by simp) rfl Fills.nil)) rfl ?_
             refine FL_storeAll H33 (h := ?_)
             intro w500 H500
             refine Am ?_
             refine Qn ?_
             refine Rb (QfnC_ret (h := ?_))
             exact ⟨_, resC2 H500, made_outS (by rw [hres, if_neg (by omega), if_neg (by omega), if_pos (by omega)]), H500.kept⟩
            ·refine FW_skip (Qblk_normal (Qseq_normal ?_))
             refine Sr ?_
             refine Mv ?_
             refine Vf ?_
             refine Ld H33 ?_
             refine Vf ?_
             refine Ld H33 ?_
             refine FL_call (reckon_ok k a.n b.n ha hb) rfl rfl (fun v' w509 hv => ?_)
             obtain ⟨⟨cp, rfl, hcp⟩, hkk⟩ := hv
             have H509 := H33.keep hkk
             refine Mv ?_
             refine Vx ?_
             refine Vx ?_
             refine Am ?_
             refine Am ?_
             refine Nx ?_
             refine Mv ?_
             refine FL_val (Gives.build (out := cellCells ⟨false, cp, []⟩) (Fills.one rfl rfl rfl (by simp) rfl Fills.nil)) rfl ?_
             refine Mv ?_
             refine FL_storeAll H509 (h := ?_)
             intro w519 H519
             refine Am ?_
             refine Qn ?_
             refine FW_ret (QfnC_ret (h := ?_))
             exact ⟨_, resC2 H519, made_outN (n := reckS k a.n b.n) (by rw [hres0]; exact reck_made h7 h18 (by omega) (by omega) (by omega) hnn (by omega) (by omega) (by omega)) rfl hcp, H519.kept⟩
end
end Go.Proofs.YtmkaahkbhdlniaaGreatDoor
