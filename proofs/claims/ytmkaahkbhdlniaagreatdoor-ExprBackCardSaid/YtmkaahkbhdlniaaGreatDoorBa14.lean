/-
 The program's comparison of cells, its logic, walked.
-/
import Derived.Test.YtmkaahkbhdlniaaGreatDoorBa13
set_option linter.unusedVariables false
set_option linter.unusedSimpArgs false
namespace Go.Proofs.YtmkaahkbhdlniaaGreatDoor
open Go Go.Mw Go.Lib
set_option maxRecDepth 4000
attribute [local irreducible] flagC
section
variable {w : World}
theorem compareE_ok (a b : CellM) : Rets Tryz.prog 94 [agg (cellCells a), agg (cellCells b)] w fun v w' => v = I (cmpC a b) ∧ Kept noB w w' := by
 have H := Sep.start0 w
 refine rets2 Tryz.func94 rfl rfl rfl rfl ?_
 refine Sr ?_
 refine FL_box H (cs := cellCells a) rfl (h := ?_)
 intro b0 w2 H2 k0
 refine FL_box H2 (cs := cellCells b) rfl (h := ?_)
 intro b1 w4 H4 k1
 refine Am ?_
 refine Qn ?_
 refine FW_seq ?_
 refine FW_block ?_
 refine Sr ?_
 refine Vf ?_
 refine Ld H4 ?_
 refine Vf ?_
 refine Ld H4 ?_
 refine FL_val (Gives.eqlB rfl rfl) rfl ?_
 refine Am ?_
 refine Qn ?_
 refine FW_condP rfl (fun hc12 => ?_) (fun hc12 => ?_)
 ·have hn := hc12
  refine FW_seq ?_
  refine FW_drawS rfl H4 (h := fun hok14 w16 H16 => ?_)
  refine FGp hok14 0 rfl rfl (fun _ => (Gives.field0 rfl)) (by kernel_rfl) ?_
  refine FGload hok14 1 H16 (h := ?_)
  refine FGp hok14 2 rfl rfl (fun _ => (Gives.field0 rfl)) (by kernel_rfl) ?_
  refine FGload hok14 3 H16 (h := ?_)
  refine FGp hok14 5 rfl rfl (fun _ => (Gives.field0 rfl)) (by kernel_rfl) ?_
  refine FGload hok14 6 H16 (h := ?_)
  refine FGp hok14 7 rfl rfl (fun _ => (Gives.field0 rfl)) (by kernel_rfl) ?_
  refine FGload hok14 8 H16 (h := ?_)
  refine FGcallS hok14 4 [(8, false), (7, true), (6, false), (5, true)] H16 (cmpI_ok a.n b.n) (h := fun w26 H26 => ⟨Stab_load H26 (h := Stab_pure (Stab_load H26 (h := Stab_pure (Stab_nil)))), ?_⟩)
  refine FGcallS hok14 9 [] H26 (rets_same (Tryz.strings_Compare ⟨a.s.toArray⟩ ⟨b.s.toArray⟩ _)) (h := fun w28 H28 => ⟨Stab_nil, ?_⟩)
  refine FGbuildSlice hok14 10 [] H28 (xs := [.tmp 15, .tmp 20]) (out := [cmpI a.n b.n, compareBytes a.s b.s].flatMap intCells) (Elems.one rfl rfl (Elems.one rfl rfl Elems.nil)) (h := fun bs w30 H30 => ⟨Stab_nil, ?_⟩)
  have hrow : RowIn _ (.slice (some ⟨bs, 0, none⟩) 2 2) intCells 1 [cmpI a.n b.n, compareBytes a.s b.s] := ⟨some ⟨bs, 0, none⟩, 2, rfl, ⟨by simp, by omega⟩, Sep.blkRow H30 At0 rfl⟩
  refine FGcallQ hok14 11 [] H30 (orI_ok hrow) (h := fun w32 H32 k31 => ⟨Stab_nil, ?_⟩)
  refine FGp hok14 12 rfl rfl (fun _ => Gives.assign rfl) (by kernel_rfl) ?_
  refine FG_end hok14 (by kernel_rfl) ?_
  refine Qseq_normal ?_
  refine Rb (Qfn_ret (hR := ?_))
  exact ⟨by rw [← cmp_or a b hn]; rfl, H32.kept⟩
 ·have hn := hc12
  refine Sr ?_
  refine Vf ?_
  refine Ld H4 ?_
  refine Am ?_
  refine Qn ?_
  refine FW_cond rfl (fun hc39 => ?_) (fun hc39 => ?_)
  ·have hna := hc39
   refine Sr ?_
   refine Am ?_
   refine Qn ?_
   refine Rb (Qfn_ret (hR := ?_))
   exact ⟨by unfold cmpC; rw [if_neg hn, if_pos hna]; rfl, H4.kept⟩
  ·have hna := hc39
   refine FW_skip (Qblk_normal (Qseq_normal ?_))
   refine Sr ?_
   refine Am ?_
   refine Qn ?_
   refine FW_ret (Qfn_ret (hR := ?_))
   exact ⟨by unfold cmpC; rw [if_neg hn, if_neg (by rw [hna]; simp)]; rfl, H4.kept⟩
theorem logic1_ok {b : Nat} {E : TypeId} {l : List CellM} {vl : Value} (c : CellM) (hb : w.heap[b]? = some (.cells #[vl] E (0, 0))) (hl : RowIn w vl cellCells 3 l) : Rets Tryz.prog 157 [agg (cellCells c), .pointer (some ⟨b, 0, none⟩)] w fun v w' => v = .bool (l.any fun y => decide (c = y)) ∧ Kept noB w w' := by
 have H := Sep.start0 w
 refine rets2 Tryz.func157 rfl rfl rfl rfl ?_
 refine Sr ?_
 refine FL_box H (cs := cellCells c) rfl (h := ?_)
 intro b0 w2 H2 k0
 refine Am ?_
 refine Nx ?_
 refine FL_loadB (cs := [vl]) (H2.kept.get hb id) (h := ?_)
 refine FL_loadAll H2 (h := ?_)
 refine FL_callQ H2 (cellsHas_ok c (hl.keep H2.kept)) (h := fun w7 H7 k6 => ?_)
 refine Am ?_
 refine Qn ?_
 refine FW_ret (Qfn_ret (hR := ?_))
 exact ⟨rfl, H7.kept⟩
theorem has_dec {k : Int} {l : List CellM} {a b : CellM} (hs : Some2 k l a b) (c : CellM) : (l.any fun y => decide (c = y)) = decide (a = c ∨ b = c) := by
 rw [hs.any]
 rw [Bool.eq_iff_iff, Bool.or_eq_true, decide_eq_true_eq, decide_eq_true_eq, decide_eq_true_eq]
 exact ⟨fun h => h.imp Eq.symm Eq.symm, fun h => h.imp Eq.symm Eq.symm⟩
theorem logicE_ok {k : Int} {l : List CellM} {a b : CellM} {vl : Value} (hl : RowIn w vl cellCells 3 l) (hs : Some2 k l a b) : Rets Tryz.prog 92 [I k, vl] w fun v w' => v = agg (cellCells (logicC k a b)) ∧ Kept noB w w' := by
 have hll := hl
 obtain ⟨A, m, rfl, ⟨hm, hm'⟩, hA⟩ := hl
 have H := Sep.start0 w
 obtain ⟨hga, _, hl0⟩ := hs.get
 obtain ⟨res, hres⟩ : ∃ res, res = logicC k a b := ⟨_, rfl⟩
 rw [← hres]
 unfold logicC at hres
 refine retsC2 Tryz.func92 rfl rfl rfl rfl ?_
 refine Sr ?_
 refine FL_box H (cs := [.slice A l.length m]) rfl (h := ?_)
 intro b0 w2 H2 k0
 refine FL_alloc H2 (h := ?_)
 intro b1 w4 H4 k3
 refine Nx ?_
 refine FL_val (Gives.makeFunc rfl rfl) rfl ?_
 refine Am ?_
 refine Qn ?_
 refine FW_seq ?_
 refine FW_block ?_
 refine FW_seq ?_
 refine Sr ?_
 refine Mv ?_
 refine Ve ?_
 refine Mv ?_
 refine FL_splitP (t := 10) rfl (fun hs10 => ?_) (fun hs10 => ?_)
 ·have hk13 : k = 13 := hs10
  refine On ?_
  refine Mv ?_
  refine On ?_
  refine FL_callQ H4 (flagE_ok _) (h := fun w14 H14 k13 => ?_)
  refine On ?_
  have hb0 := H14.obj At1
  refine FL_callV (fs := []) (cs := [.pointer (some ⟨b0, 0, none⟩)]) (vals := [_]) rfl (logic1_ok (flagC false) hb0 (hll.keep H14.kept)) rfl rfl (fun v' w16 hv => ?_)
  obtain ⟨rfl, hkk⟩ := hv
  have H16 := H14.keep hkk
  rw [has_dec hs]
  refine Pt ?_
  refine Am ?_
  refine Qn ?_
  refine FW_condP rfl (fun hc19 => ?_) (fun hc19 => ?_)
  ·rw [if_pos ⟨hk13, hc19⟩] at hres
   refine Sk ?_
   refine FW_cond_true (congrArg Value.bool (decide_eq_true hc19)) ?_
   refine Sr ?_
   refine Mv ?_
   refine Ve ?_
   refine FL_callQ H16 (flagE_ok _) (h := fun w24 H24 k23 => ?_)
   refine FL_storeAll H24 (h := ?_)
   intro w26 H26
   refine Qn ?_
   refine Rb (QfnC_ret (h := ?_))
   exact ⟨_, resC1 H26, by rw [hres, show decide (k = 14) = false from decide_eq_false (by omega)]; rfl, H26.kept⟩
  ·rw [if_neg (fun h => hc19 h.2), if_neg (fun h => by omega)] at hres
   refine FW_region ?_
   refine Mv ?_
   refine Ve ?_
   refine Mv ?_
   refine FL_splitP (t := 17) rfl (fun hs32 => ?_) (fun hs32 => ?_)
   ·exact absurd hs32 (by omega)
   ·refine Of ?_
    refine Of ?_
    refine Of ?_
    refine Pf ?_
    refine Am ?_
    refine Qn ?_
    refine FW_cond_false rfl ?_
    refine Sr ?_
    refine Mv ?_
    refine FL_val (Gives.build (out := cellCells cellNull) (Fills.one rfl rfl rfl (by simp) rfl Fills.nil)) rfl ?_
    have hb0 := H16.obj At1
    refine FL_callV (fs := []) (cs := [.pointer (some ⟨b0, 0, none⟩)]) (vals := [_]) rfl (logic1_ok cellNull hb0 (hll.keep H16.kept)) rfl rfl (fun v' w39 hv => ?_)
    obtain ⟨rfl, hkk⟩ := hv
    have H39 := H16.keep hkk
    rw [has_dec hs]
    refine Am ?_
    refine Qn ?_
    refine FW_condP rfl (fun hc41 => ?_) (fun hc41 => ?_)
    ·rw [if_pos hc41] at hres
     refine Sr ?_
     refine FL_val (Gives.build (out := cellCells cellNull) (Fills.one rfl rfl rfl (by simp) rfl Fills.nil)) rfl ?_
     refine FL_storeAll H39 (h := ?_)
     intro w45 H45
     refine Qn ?_
     refine Rb (QfnC_ret (h := ?_))
     exact ⟨_, resC1 H45, by rw [hres]; rfl, H45.kept⟩
    ·rw [if_neg hc41] at hres
     refine Sr ?_
     refine Mv ?_
     refine Ve ?_
     refine Am ?_
     refine Qn ?_
     refine FW_condP rfl (fun hc51 => ?_) (fun hc51 => ?_)
     ·rw [if_pos hc51] at hres
      refine FW_seq ?_
      refine FW_drawS rfl H39 (h := fun hok53 w55 H55 => ?_)
      refine FGload hok53 0 H55 (h := ?_)
      refine FGp hok53 1 rfl rfl (fun _ => (Gives.idxR rfl rfl (by assumption) (by omega))) (by kernel_rfl) ?_
      refine FGl hok53 2 rfl rfl (Gives.loadE0 rfl H55 (by assumption) (by assumption)) (by kernel_rfl) ?_
      refine FGcallQ hok53 3 [(2, false), (1, true), (0, false)] H55 (flagE_ok _) (h := fun w60 H60 k59 => ⟨(Stab_cons rfl (by kernel_rfl) (Gives.loadE0 (i := 0) rfl H60 hA hga) rfl (Stab_pure (Stab_load H60 (h := Stab_nil)))), ?_⟩)
      refine FGp hok53 4 rfl rfl (fun _ => (Gives.eqlG (enc := cellCells) _ _ rfl rfl)) (by kernel_rfl) ?_
      refine FGcallQ hok53 5 [] H60 (flagE_ok _) (h := fun w63 H63 k62 => ⟨Stab_nil, ?_⟩)
      refine FGstoreAll hok53 6 [] H63 (h := fun w65 H65 => ⟨Stab_nil, ?_⟩)
      refine FG_end hok53 (by kernel_rfl) ?_
      refine Qseq_normal ?_
      refine Rb (QfnC_ret (h := ?_))
      exact ⟨_, resC1 H65, by rw [hres]; rfl, H65.kept⟩
     ·rw [if_neg hc51] at hres
      refine FW_skip (Qblk_normal (Qseq_normal ?_))
      refine Sr ?_
      refine Mv ?_
      refine Ve ?_
      refine FL_callQ H39 (flagE_ok _) (h := fun w71 H71 k70 => ?_)
      refine FL_storeAll H71 (h := ?_)
      intro w73 H73
      refine Qn ?_
      refine FW_ret (QfnC_ret (h := ?_))
      exact ⟨_, resC1 H73, by rw [hres]; rfl, H73.kept⟩
 ·have hk13 : ¬ k = 13 := hs10
  rw [if_neg (fun h => hk13 h.1)] at hres
  refine Of ?_
  refine Of ?_
  refine Of ?_
  refine Pf ?_
  refine Am ?_
  refine Qn ?_
  refine FW_cond_false rfl ?_
  refine FW_region ?_
  refine Mv ?_
  refine Ve ?_
  refine Mv ?_
  refine FL_splitP (t := 17) rfl (fun hs81 => ?_) (fun hs81 => ?_)
  ·have hk14 : k = 14 := hs81
   refine On ?_
   refine Mv ?_
   refine On ?_
   refine FL_callQ H4 (flagE_ok _) (h := fun w85 H85 k84 => ?_)
   refine On ?_
   have hb0 := H85.obj At1
   refine FL_callV (fs := []) (cs := [.pointer (some ⟨b0, 0, none⟩)]) (vals := [_]) rfl (logic1_ok (flagC true) hb0 (hll.keep H85.kept)) rfl rfl (fun v' w87 hv => ?_)
   obtain ⟨rfl, hkk⟩ := hv
   have H87 := H85.keep hkk
   rw [has_dec hs]
   refine Pt ?_
   refine Am ?_
   refine Qn ?_
   refine FW_condP rfl (fun hc90 => ?_) (fun hc90 => ?_)
   ·rw [if_pos ⟨hk14, hc90⟩] at hres
    refine Sr ?_
    refine Mv ?_
    refine Ve ?_
    refine FL_callQ H87 (flagE_ok _) (h := fun w95 H95 k94 => ?_)
    refine FL_storeAll H95 (h := ?_)
    intro w97 H97
    refine Qn ?_
    refine Rb (QfnC_ret (h := ?_))
    exact ⟨_, resC1 H97, by rw [hres, show decide (k = 14) = true from decide_eq_true (by omega)]; rfl, H97.kept⟩
   ·rw [if_neg (fun h => hc90 h.2)] at hres
    refine Sr ?_
    refine Mv ?_
    refine FL_val (Gives.build (out := cellCells cellNull) (Fills.one rfl rfl rfl (by simp) rfl Fills.nil)) rfl ?_
    have hb0 := H87.obj At1
    refine FL_callV (fs := []) (cs := [.pointer (some ⟨b0, 0, none⟩)]) (vals := [_]) rfl (logic1_ok cellNull hb0 (hll.keep H87.kept)) rfl rfl (fun v' w103 hv => ?_)
    obtain ⟨rfl, hkk⟩ := hv
    have H103 := H87.keep hkk
    rw [has_dec hs]
    refine Am ?_
    refine Qn ?_
    refine FW_condP rfl (fun hc105 => ?_) (fun hc105 => ?_)
    ·rw [if_pos hc105] at hres
     refine Sr ?_
     refine FL_val (Gives.build (out := cellCells cellNull) (Fills.one rfl rfl rfl (by simp) rfl Fills.nil)) rfl ?_
     refine FL_storeAll H103 (h := ?_)
     intro w109 H109
     refine Qn ?_
     refine Rb (QfnC_ret (h := ?_))
     exact ⟨_, resC1 H109, by rw [hres]; rfl, H109.kept⟩
    ·rw [if_neg hc105] at hres
     refine Sr ?_
     refine Mv ?_
     refine Ve ?_
     refine Am ?_
     refine Qn ?_
     refine FW_condP rfl (fun hc115 => ?_) (fun hc115 => ?_)
     ·rw [if_pos hc115] at hres
      refine FW_seq ?_
      refine FW_drawS rfl H103 (h := fun hok117 w119 H119 => ?_)
      refine FGload hok117 0 H119 (h := ?_)
      refine FGp hok117 1 rfl rfl (fun _ => (Gives.idxR rfl rfl (by assumption) (by omega))) (by kernel_rfl) ?_
      refine FGl hok117 2 rfl rfl (Gives.loadE0 rfl H119 (by assumption) (by assumption)) (by kernel_rfl) ?_
      refine FGcallQ hok117 3 [(2, false), (1, true), (0, false)] H119 (flagE_ok _) (h := fun w124 H124 k123 => ⟨(Stab_cons rfl (by kernel_rfl) (Gives.loadE0 (i := 0) rfl H124 hA hga) rfl (Stab_pure (Stab_load H124 (h := Stab_nil)))), ?_⟩)
      refine FGp hok117 4 rfl rfl (fun _ => (Gives.eqlG (enc := cellCells) _ _ rfl rfl)) (by kernel_rfl) ?_
      refine FGcallQ hok117 5 [] H124 (flagE_ok _) (h := fun w127 H127 k126 => ⟨Stab_nil, ?_⟩)
      refine FGstoreAll hok117 6 [] H127 (h := fun w129 H129 => ⟨Stab_nil, ?_⟩)
      refine FG_end hok117 (by kernel_rfl) ?_
      refine Qseq_normal ?_
      refine Rb (QfnC_ret (h := ?_))
      exact ⟨_, resC1 H129, by rw [hres]; rfl, H129.kept⟩
     ·rw [if_neg hc115] at hres
      refine FW_skip (Qblk_normal (Qseq_normal ?_))
      refine Sr ?_
      refine Mv ?_
      refine Ve ?_
      refine FL_callQ H103 (flagE_ok _) (h := fun w135 H135 k134 => ?_)
      refine FL_storeAll H135 (h := ?_)
      intro w137 H137
      refine Qn ?_
      refine FW_ret (QfnC_ret (h := ?_))
      exact ⟨_, resC1 H137, by rw [hres]; rfl, H137.kept⟩
  ·have hk14 : ¬ k = 14 := hs81
   rw [if_neg (fun h => hk14 h.1)] at hres
   refine Of ?_
   refine Of ?_
   refine Of ?_
   refine Pf ?_
   refine Am ?_
   refine Qn ?_
   refine FW_cond_false rfl ?_
   refine Sr ?_
   refine Mv ?_
   refine FL_val (Gives.build (out := cellCells cellNull) (Fills.one rfl rfl rfl (by simp) rfl Fills.nil)) rfl ?_
   have hb0 := H4.obj At1
   refine FL_callV (fs := []) (cs := [.pointer (some ⟨b0, 0, none⟩)]) (vals := [_]) rfl (logic1_ok cellNull hb0 (hll.keep H4.kept)) rfl rfl (fun v' w145 hv => ?_)
   obtain ⟨rfl, hkk⟩ := hv
   have H145 := H4.keep hkk
   rw [has_dec hs]
   refine Am ?_
   refine Qn ?_
   refine FW_condP rfl (fun hc147 => ?_) (fun hc147 => ?_)
   ·rw [if_pos hc147] at hres
    refine Sr ?_
    refine FL_val (Gives.build (out := cellCells cellNull) (Fills.one rfl rfl rfl (by simp) rfl Fills.nil)) rfl ?_
    refine FL_storeAll H145 (h := ?_)
    intro w151 H151
    refine Qn ?_
    refine Rb (QfnC_ret (h := ?_))
    exact ⟨_, resC1 H151, by rw [hres]; rfl, H151.kept⟩
   ·rw [if_neg hc147] at hres
    refine Sr ?_
    refine Mv ?_
    refine Ve ?_
    refine Am ?_
    refine Qn ?_
    refine FW_condP rfl (fun hc157 => ?_) (fun hc157 => ?_)
    ·rw [if_pos hc157] at hres
     refine FW_seq ?_
     refine FW_drawS rfl H145 (h := fun hok159 w161 H161 => ?_)
     refine FGload hok159 0 H161 (h := ?_)
     refine FGp hok159 1 rfl rfl (fun _ => (Gives.idxR rfl rfl (by assumption) (by omega))) (by kernel_rfl) ?_
     refine FGl hok159 2 rfl rfl (Gives.loadE0 rfl H161 (by assumption) (by assumption)) (by kernel_rfl) ?_
     refine FGcallQ hok159 3 [(2, false), (1, true), (0, false)] H161 (flagE_ok _) (h := fun w166 H166 k165 => ⟨(Stab_cons rfl (by kernel_rfl) (Gives.loadE0 (i := 0) rfl H166 hA hga) rfl (Stab_pure (Stab_load H166 (h := Stab_nil)))), ?_⟩)
     refine FGp hok159 4 rfl rfl (fun _ => (Gives.eqlG (enc := cellCells) _ _ rfl rfl)) (by kernel_rfl) ?_
     refine FGcallQ hok159 5 [] H166 (flagE_ok _) (h := fun w169 H169 k168 => ⟨Stab_nil, ?_⟩)
     refine FGstoreAll hok159 6 [] H169 (h := fun w171 H171 => ⟨Stab_nil, ?_⟩)
     refine FG_end hok159 (by kernel_rfl) ?_
     refine Qseq_normal ?_
     refine Rb (QfnC_ret (h := ?_))
     exact ⟨_, resC1 H171, by rw [hres]; rfl, H171.kept⟩
    ·rw [if_neg hc157] at hres
     refine FW_skip (Qblk_normal (Qseq_normal ?_))
     refine Sr ?_
     refine Mv ?_
     refine Ve ?_
     refine FL_callQ H145 (flagE_ok _) (h := fun w177 H177 k176 => ?_)
     refine FL_storeAll H177 (h := ?_)
     intro w179 H179
     refine Qn ?_
     refine FW_ret (QfnC_ret (h := ?_))
     exact ⟨_, resC1 H179, by rw [hres]; rfl, H179.kept⟩
end
end Go.Proofs.YtmkaahkbhdlniaaGreatDoor
