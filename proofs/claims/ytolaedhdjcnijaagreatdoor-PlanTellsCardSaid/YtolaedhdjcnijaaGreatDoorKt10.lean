/-
 The document's steps, walked: columns, types of leaves.
-/
import Derived.Test.YtolaedhdjcnijaaGreatDoorKt9
import Derived.Test.YtolaedhdjcnijaaGreatDoorKt6
set_option linter.unusedVariables false
set_option linter.unusedSimpArgs false
namespace Go.Proofs.YtolaedhdjcnijaaGreatDoor
open Go Go.Mw Go.Lib
set_option maxRecDepth 4000
def colI (cols : List ColM) (n : Int) : Int := match findC cols n with | some i => i | none => -1
theorem find_none {cols : List ColM} {n : Int} (h : ∀ (j : Nat) a, cols[j]? = some a → a.id ≠ n) : findC cols n = none := by
 unfold findC
 rw [List.findIdx?_eq_none_iff]
 intro a ha
 obtain ⟨j, hj⟩ := List.getElem?_of_mem ha
 simpa using h j a hj
theorem find_some {cols : List ColM} {n : Int} {i : Nat} {a : ColM} (hi : cols[i]? = some a) (he : a.id = n) (h : ∀ (j : Nat) a, j < i → cols[j]? = some a → a.id ≠ n) : findC cols n = some i := by
 have hl := get_lt hi
 have hia : cols[i] = a := by rw [List.getElem?_eq_getElem hl] at hi; injection hi
 unfold findC
 rw [List.findIdx?_eq_some_iff_getElem]
 refine ⟨hl, by simp [hia, he], fun j hj => ?_⟩
 have := h j cols[j] hj (List.getElem?_eq_getElem (by omega))
 simpa using this
theorem colI_neg {cols : List ColM} {n : Int} (h : colI cols n < 0) : findC cols n = none := by
 unfold colI at h
 split at h
 ·omega
 assumption
theorem colI_some {cols : List ColM} {n : Int} (h : ¬ colI cols n < 0) : ∃ i, findC cols n = some i ∧ colI cols n = (i : Int) := by
 unfold colI at h ⊢
 cases e : findC cols n with
 | none => rw [e] at h; simp at h
 | some i => exact ⟨i, rfl, rfl⟩
theorem find_lt {cols : List ColM} {n : Int} {i : Nat} (h : findC cols n = some i) : i < cols.length := by
 unfold findC at h
 rw [List.findIdx?_eq_some_iff_getElem] at h
 exact h.1
section
variable {w : World}
theorem column_ok22 {cols : List ColM} {vc : Value} (n : Int) (hc : RowIn w vc colCells 7 cols) : Rets Tryz.prog 156 [vc, I n] w fun v w' => v = I (colI cols n) ∧ Kept noB w w' := by
  obtain ⟨A, m, rfl, ⟨hm, hm'⟩, hA⟩ := hc
  have H := Sep.start0 w
  refine rets2 Tryz.func156 rfl rfl rfl rfl ?_
  refine Sr (Am ?_)
  refine Qn (FW_seq (Sr (Am ?_)))
  refine Qn (FW_block (FW_loop' (fun i : Nat => [(0, .slice A cols.length m), (1, I n), (5, I i)]) (fun i w' => (i ≤ cols.length ∧ ∀ (j : Nat) a, j < i → cols[j]? = some a → a.id ≠ n) ∧ Sep w noB [] w') (fun i _ => cols.length - i) 0 ⟨rfl, rfl, rfl, trivial⟩ ⟨⟨Nat.zero_le _, fun j a hj => by omega⟩, H⟩ (fun i τ w4 hI => ?_)))
  obtain ⟨⟨hi, hst⟩, H4⟩ := hI
  try simp only [upds, like, upd_ds, und_ds]
  refine FW_seq (Sr (Mv ?_))
  refine Mv ?_
  refine Vs ?_
  refine Vl ?_
  refine Qn (Cp rfl (fun hc9 => ?_) (fun hc9 => ?_))
  · have hlt : i < cols.length := by omega
    obtain ⟨a, ha⟩ := get_some hlt
    refine Sk (FW_seq (FW_block (Sr (Mv ?_))))
    refine Mv ?_
    refine Vv (Gives.idxR rfl rfl (by assumption) (by omega)) (Vv (Gives.fieldR rfl (by assumption) (by omega)) ?_)
    refine Vv (Gives.loadE rfl H4 (by assumption) (by assumption) rfl) (Mv ?_)
    refine Ve ?_
    refine Qn (Cp rfl (fun hc18 => ?_) (fun hc18 => ?_))
    · have hfin : colI cols n = i := by
        unfold colI
        rw [find_some ha hc18 hst]
      refine Sr (Mv ?_)
      refine Am ?_
      refine Qn (Rb (Qround_ret (Qblk_ret (Qseq_ret (Qfn_ret (hR := ?_))))))
      exact ⟨by rw [hfin]; rfl, H4.kept⟩
    have hst' : ∀ (j : Nat) a, j < i + 1 → cols[j]? = some a → a.id ≠ n := by
      intro j b hj hb
      rcases Nat.lt_or_ge j i with h | h
      · exact hst j b h hb
      have : j = i := by omega
      subst this
      rw [ha] at hb; injection hb with hb; subst hb; exact hc18
    refine FW_skip (Qblk_normal (Qseq_normal (FW_region (Mv ?_))))
    refine Vv (Gives.addI rfl rfl rfl (by omega)) (Am ?_)
    refine FL_nil ?_
    exact Qround_normal (i + 1) ⟨rfl, rfl, rfl, trivial⟩ ⟨⟨by omega, hst'⟩, H4⟩ (by omega)
  have hfin : colI cols n = -1 := by
    unfold colI
    rw [find_none fun j a hj => hst j a (by have := get_lt hj; omega) hj]
  refine FW_exit (Qseq_exit (Qround_exit (Qblk_exit (Qseq_normal (Sr (Am ?_))))))
  refine Qn (FW_ret (Qfn_ret (hR := ?_)))
  exact ⟨by rw [hfin]; rfl, H4.kept⟩
end
attribute [local irreducible] mayT
section
variable {w : World}
theorem leaf_ok22 {cols : List ColM} {vc : Value} (x : StepM) (hc : RowIn w vc colCells 7 cols) : Rets Tryz.prog 112 [vc, agg (stepCells x)] w fun v w' => v = .tuple #[agg (typeCells ((leafT cols x).getD type0)), .bool (leafT cols x).isSome] ∧ Kept noB w w' := by
 have hcc := hc
 obtain ⟨A, m, rfl, ⟨hm, hm'⟩, hA⟩ := hc
 have H := Sep.start0 w
 obtain ⟨res, hres⟩ : ∃ res, res = leafT cols x := ⟨_, rfl⟩
 rw [← hres]
 unfold leafT at hres
 refine retsC2 Tryz.func112 rfl rfl rfl rfl ?_
 refine Sr (FL_box H (h := fun b1 w2 H2 k1 => ?_))
 refine FL_alloc H2 (h := fun b3 w4 H4 k3 => ?_)
 refine Am ?_
 refine Qn (FW_seq (Sr (Vf ?_)))
 refine Ld H4 ?_
 refine Qn (FW_block (Sr (Ve ?_)))
 refine Am ?_
 refine Qn (Cp rfl (fun hc10 => ?_) (fun hc10 => ?_))
 ·rw [if_pos hc10] at hres
  refine Sr (Mv ?_)
  refine Vf ?_
  refine Ld H4 ?_
  refine FL_callQ H4 (column_ok22 x.n (hcc.keep H4.kept)) (h := fun w16 H16 k15 => ?_)
  refine Am ?_
  refine Qn (FW_seq (Sr (Mv ?_)))
  refine Vl ?_
  refine Mv ?_
  refine FL_splitP (t := 18) rfl (fun hs21 => ?_) (fun hs21 => ?_)
  ·have hfin : res = none := by rw [hres, colI_neg hs21]
   refine Of (Of (Of (Of (Of (Of (Of (Pt ?_)))))))
   refine Qn (FW_cond_true rfl ?_)
   refine Sr (Vv (Gives.build (out := typeCells type0) Fills.nil) (FL_storeAll H16 (h := fun w26 H26 => ?_)))
   refine Am ?_
   refine Qn (Rs (Qblk_ret (Qseq_ret (QfnC_ret (h := ?_)))))
   refine ⟨_, resC2 H26, ?_⟩
   exact ⟨by first | (rw [hfin]; rfl) | (rw [hres]; rfl), H26.kept⟩
  obtain ⟨i, hf, hI⟩ := colI_some hs21
  have hlt := find_lt hf
  obtain ⟨a, ha⟩ := get_some hlt
  have hgd : cols.getD i ⟨0, [], type0, cell0⟩ = a := by rw [List.getD_eq_getElem?_getD, ha]; rfl
  rw [hf] at hres
  dsimp only at hres
  rw [hgd] at hres
  rw [hI]
  refine On (Mv ?_)
  refine On (Mv ?_)
  refine On (Vv (Gives.idxR rfl rfl (by assumption) (by omega)) (On ?_))
  refine Vv (Gives.fieldR rfl (by assumption) (by omega)) (On ?_)
  refine Vv (Gives.loadEN (us := typeCells _) rfl H16 (by assumption) (by assumption) rfl rfl) (On ?_)
  refine FL_callQ H16 (may_ok9 _) (h := fun w36 H36 k35 => ?_)
  refine On (Vv (Gives.not rfl) (Pf ?_))
  refine Qn (Cd rfl (fun hc39 => ?_) (fun hc39 => ?_))
  ·have hfin : res = none := by rw [hres, if_pos (by simpa using hc39)]
   refine Sr (Vv (Gives.build (out := typeCells type0) Fills.nil) (FL_storeAll H36 (h := fun w43 H43 => ?_)))
   refine Am ?_
   refine Qn (Rs (Qblk_ret (Qseq_ret (QfnC_ret (h := ?_)))))
   refine ⟨_, resC2 H43, ?_⟩
   exact ⟨by first | (rw [hfin]; rfl) | (rw [hres]; rfl), H43.kept⟩
  rw [if_neg (by simpa using hc39)] at hres
  refine Sk (Sr (Mv ?_))
  refine Mv ?_
  refine Vv (Gives.idxR rfl rfl (by assumption) (by omega)) (Vv (Gives.fieldR rfl (by assumption) (by omega)) ?_)
  refine Vv (Gives.loadEN (us := typeCells _) rfl H36 (by assumption) (by assumption) rfl rfl) (FL_alloc H36 (h := fun b52 w53 H53 k52 => ?_))
  refine FL_storeAll H53 (h := fun w55 H55 => ?_)
  refine Qn (FW_seq (Sr (Vf ?_)))
  refine Ld H55 ?_
  refine Ve ?_
  refine Qn (Cp rfl (fun hc59 => ?_) (fun hc59 => ?_))
  ·rw [if_pos hc59] at hres
   obtain ⟨t, ht⟩ : ∃ t, t = TypeM.mk 3 a.type.null := ⟨_, rfl⟩
   rw [← ht] at hres
   refine FW_region (Vf ?_)
   refine FL_store H55 (cs' := typeCells t) (hs := by rw [ht]; rfl) (h := fun w63 H63 => ?_)
   refine Nx (FL_loadAll H63 (h := ?_))
   refine FL_storeAll H63 (h := fun w66 H66 => ?_)
   refine Am ?_
   refine Qn (Rb (QfnC_ret (h := ?_)))
   refine ⟨_, resC2 H66, ?_⟩
   exact ⟨by first | (rw [hfin]; rfl) | (rw [hres]; rfl), H66.kept⟩
  rw [if_neg hc59] at hres
  obtain ⟨t, ht⟩ : ∃ t, t = a.type := ⟨_, rfl⟩
  rw [← ht] at hres H55
  refine Sk (Sr (FL_loadAll H55 (h := ?_)))
  refine FL_storeAll H55 (h := fun w72 H72 => ?_)
  refine Am ?_
  refine Qn (Rb (QfnC_ret (h := ?_)))
  refine ⟨_, resC2 H72, ?_⟩
  exact ⟨by first | (rw [hfin]; rfl) | (rw [hres]; rfl), H72.kept⟩
 rw [if_neg hc10] at hres
 refine Sr (Ve ?_)
 refine Am ?_
 refine Qn (Cp rfl (fun hc78 => ?_) (fun hc78 => ?_))
 ·rw [if_pos hc78] at hres
  refine Sr (Vv (Gives.build (out := typeCells ⟨3, false⟩) (Fills.one rfl rfl rfl (by simp) rfl Fills.nil)) (FL_storeAll H4 (h := fun w82 H82 => ?_)))
  refine Am ?_
  refine Qn (Rb (QfnC_ret (h := ?_)))
  refine ⟨_, resC2 H82, ?_⟩
  exact ⟨by first | (rw [hfin]; rfl) | (rw [hres]; rfl), H82.kept⟩
 rw [if_neg hc78] at hres
 refine Sr (Ve ?_)
 refine Am ?_
 refine Qn (Cp rfl (fun hc88 => ?_) (fun hc88 => ?_))
 ·rw [if_pos hc88] at hres
  refine Sr (Vv (Gives.build (out := typeCells ⟨1, false⟩) (Fills.one rfl rfl rfl (by simp) rfl Fills.nil)) (FL_storeAll H4 (h := fun w92 H92 => ?_)))
  refine Am ?_
  refine Qn (Rb (QfnC_ret (h := ?_)))
  refine ⟨_, resC2 H92, ?_⟩
  exact ⟨by first | (rw [hfin]; rfl) | (rw [hres]; rfl), H92.kept⟩
 rw [if_neg hc88] at hres
 refine Sr (Ve ?_)
 refine Am ?_
 refine Qn (Cp rfl (fun hc98 => ?_) (fun hc98 => ?_))
 ·rw [if_pos hc98] at hres
  refine Sr (Vv (Gives.build (out := typeCells ⟨4, false⟩) (Fills.one rfl rfl rfl (by simp) rfl Fills.nil)) (FL_storeAll H4 (h := fun w102 H102 => ?_)))
  refine Am ?_
  refine Qn (Rb (QfnC_ret (h := ?_)))
  refine ⟨_, resC2 H102, ?_⟩
  exact ⟨by first | (rw [hfin]; rfl) | (rw [hres]; rfl), H102.kept⟩
 rw [if_neg hc98] at hres
 refine Sr (Ve ?_)
 refine Am ?_
 refine Qn (Cp rfl (fun hc108 => ?_) (fun hc108 => ?_))
 ·rw [if_pos hc108] at hres
  refine Sr (Vv (Gives.build (out := typeCells ⟨5, false⟩) (Fills.one rfl rfl rfl (by simp) rfl Fills.nil)) (FL_storeAll H4 (h := fun w112 H112 => ?_)))
  refine Am ?_
  refine Qn (Rb (QfnC_ret (h := ?_)))
  refine ⟨_, resC2 H112, ?_⟩
  exact ⟨by first | (rw [hfin]; rfl) | (rw [hres]; rfl), H112.kept⟩
 rw [if_neg hc108] at hres
 refine FW_skip (Qblk_normal (Qseq_normal (Sr (Vf ?_))))
 refine Ld H4 ?_
 refine Vv (Gives.build (out := typeCells ⟨x.n, true⟩) (Fills.one rfl rfl rfl (by simp) rfl (Fills.one rfl rfl rfl (by simp) rfl Fills.nil))) (FL_storeAll H4 (h := fun w120 H120 => ?_))
 refine Am ?_
 refine Qn (FW_ret (QfnC_ret (h := ?_)))
 refine ⟨_, resC2 H120, ?_⟩
 exact ⟨by first | (rw [hfin]; rfl) | (rw [hres]; rfl), H120.kept⟩
end
theorem made_out {res : Option TypeM} {t : TypeM} {ok : Bool} (h : res = if ok = true then some t else none) : ∃ t', Value.tuple #[agg (typeCells t), .bool ok] = .tuple #[agg (typeCells t'), .bool res.isSome] ∧ ∀ x, res = some x → t' = x := by
 subst h
 refine ⟨t, by cases ok <;> rfl, fun x hx => ?_⟩
 cases ok
 ·cases hx
 injection hx
section
variable {w : World}
theorem made_ok22 (k : Int) (a b : TypeM) : Rets Tryz.prog 113 [I k, agg (typeCells a), agg (typeCells b)] w fun v w' => (∃ t, v = .tuple #[agg (typeCells t), .bool (madeT k a b).isSome] ∧ ∀ x, madeT k a b = some x → t = x) ∧ Kept noB w w' := by
 have H := Sep.start0 w
 obtain ⟨res, hres⟩ : ∃ res, res = madeT k a b := ⟨_, rfl⟩
 rw [← hres]
 unfold madeT at hres
 refine retsC3 Tryz.func113 rfl rfl rfl rfl ?_
 refine Sr (FL_box H (h := fun b1 w2 H2 k1 => ?_))
 refine FL_box H2 (h := fun b3 w4 H4 k3 => ?_)
 refine FL_alloc H4 (h := fun b5 w6 H6 k5 => ?_)
 refine Am ?_
 refine Qn (FW_cut (fun z : Bool => [(0, I k), (4, .pointer (some ⟨b1, 0, none⟩)), (5, .pointer (some ⟨b3, 0, none⟩)), (6, .pointer (some ⟨b5, 0, none⟩)), (7, .bool false), (8, .bool z)]) (fun z w' => z = (a.null || b.null) ∧ Sep w noB [blk b5 (typeCells type0) 45, blk b3 (typeCells b) 45, blk b1 (typeCells a) 45] w') ?_ ?_)
 ·refine FW_region (Vf ?_)
  refine Ld H6 ?_
  refine Mv ?_
  refine FL_split (t := 13) rfl (fun hs12 => ?_) (fun hs12 => ?_)
  ·refine Of (Of (Pt ?_))
   refine Am ?_
   refine FL_nil ?_
   exact Qcut_normal _ ⟨rfl, rfl, rfl, rfl, rfl, rfl, trivial⟩ ⟨by simp [*], H6⟩
  refine On (Vf ?_)
  refine On (Ld H6 ?_)
  refine Pf ?_
  refine Am ?_
  refine FL_nil ?_
  exact Qcut_normal _ ⟨rfl, rfl, rfl, rfl, rfl, rfl, trivial⟩ ⟨by simp [*], H6⟩
 rintro nn τ w22 ⟨hnn, H22⟩
 simp only [upds, like, upd_ds, und_ds]
 refine FW_cut (fun z : Bool => [(0, I k), (4, .pointer (some ⟨b1, 0, none⟩)), (5, .pointer (some ⟨b3, 0, none⟩)), (6, .pointer (some ⟨b5, 0, none⟩)), (7, .bool false), (8, .bool nn), (9, .bool z)]) (fun z w' => z = decide (a.kind = 3 ∧ b.kind = 3) ∧ Sep w noB [blk b5 (typeCells type0) 45, blk b3 (typeCells b) 45, blk b1 (typeCells a) 45] w') ?_ ?_
 ·refine FW_region (Vf ?_)
  refine Ld H22 ?_
  refine Ve ?_
  refine Mv ?_
  refine FL_splitP (t := 20) rfl (fun hs28 => ?_) (fun hs28 => ?_)
  ·refine On (Vf ?_)
   refine On (Ld H22 ?_)
   refine On (Ve ?_)
   refine Pt ?_
   refine Am ?_
   refine FL_nil ?_
   exact Qcut_normal _ ⟨rfl, rfl, rfl, rfl, rfl, rfl, rfl, trivial⟩ ⟨by simp [*], H22⟩
  refine Of (Of (Of (Pf ?_)))
  refine Am ?_
  refine FL_nil ?_
  exact Qcut_normal _ ⟨rfl, rfl, rfl, rfl, rfl, rfl, rfl, trivial⟩ ⟨by simp [*], H22⟩
 rintro n3 τ w39 ⟨hn3, H39⟩
 simp only [upds, like, upd_ds]
 refine FW_cut (fun z : Bool => [(0, I k), (4, .pointer (some ⟨b1, 0, none⟩)), (5, .pointer (some ⟨b3, 0, none⟩)), (6, .pointer (some ⟨b5, 0, none⟩)), (7, .bool false), (8, .bool nn), (9, .bool n3), (10, .bool z)]) (fun z w' => z = decide (a.kind = 1 ∧ b.kind = 1) ∧ Sep w noB [blk b5 (typeCells type0) 45, blk b3 (typeCells b) 45, blk b1 (typeCells a) 45] w') ?_ ?_
 ·refine FW_region (Vf ?_)
  refine Ld H39 ?_
  refine Ve ?_
  refine Mv ?_
  refine FL_splitP (t := 28) rfl (fun hs45 => ?_) (fun hs45 => ?_)
  ·refine On (Vf ?_)
   refine On (Ld H39 ?_)
   refine On (Ve ?_)
   refine Pt ?_
   refine Am ?_
   refine FL_nil ?_
   exact Qcut_normal _ ⟨rfl, rfl, rfl, rfl, rfl, rfl, rfl, rfl, trivial⟩ ⟨by simp [*], H39⟩
  refine Of (Of (Of (Pf ?_)))
  refine Am ?_
  refine FL_nil ?_
  exact Qcut_normal _ ⟨rfl, rfl, rfl, rfl, rfl, rfl, rfl, rfl, trivial⟩ ⟨by simp [*], H39⟩
 rintro n1 τ w56 ⟨hn1, H56⟩
 simp only [upds, like, upd_ds]
 refine FW_seq (Sr (Mv ?_))
 refine Qn (FW_block (FW_seq (Sr (Ve ?_))))
 refine Am ?_
 refine Qn (Cp rfl (fun hc60 => ?_) (fun hc60 => ?_))
 ·refine Sk (FW_cond_true (congrArg Value.bool (decide_eq_true hc60)) ?_)
  refine Sr (Mv ?_)
  refine Vv (Gives.build (out := typeCells ⟨3, nn⟩) (Fills.one rfl rfl rfl (by simp) rfl (Fills.one rfl rfl rfl (by simp) rfl Fills.nil))) (Mv ?_)
  refine FL_storeAll H56 (h := fun w65 H65 => ?_)
  refine Am ?_
  refine Qn (Rb (QfnC_ret (h := ?_)))
  exact ⟨_, resC2 H65, made_out (t := ⟨3, nn⟩) (ok := n3) (by rw [hres, if_pos (by omega), hnn, hn3]; simp only [decide_eq_true_eq]), H65.kept⟩
 refine Sr (Ve ?_)
 refine Am ?_
 refine Qn (Cp rfl (fun hc70 => ?_) (fun hc70 => ?_))
 ·refine Sk (FW_cond_true (congrArg Value.bool (decide_eq_true hc70)) ?_)
  refine Sr (Mv ?_)
  refine Vv (Gives.build (out := typeCells ⟨3, nn⟩) (Fills.one rfl rfl rfl (by simp) rfl (Fills.one rfl rfl rfl (by simp) rfl Fills.nil))) (Mv ?_)
  refine FL_storeAll H56 (h := fun w75 H75 => ?_)
  refine Am ?_
  refine Qn (Rb (QfnC_ret (h := ?_)))
  exact ⟨_, resC2 H75, made_out (t := ⟨3, nn⟩) (ok := n3) (by rw [hres, if_pos (by omega), hnn, hn3]; simp only [decide_eq_true_eq]), H75.kept⟩
 refine Sr (Ve ?_)
 refine Am ?_
 refine Qn (Cp rfl (fun hc80 => ?_) (fun hc80 => ?_))
 ·refine Sk (FW_cond_true (congrArg Value.bool (decide_eq_true hc80)) ?_)
  refine Sr (Mv ?_)
  refine Vv (Gives.build (out := typeCells ⟨3, nn⟩) (Fills.one rfl rfl rfl (by simp) rfl (Fills.one rfl rfl rfl (by simp) rfl Fills.nil))) (Mv ?_)
  refine FL_storeAll H56 (h := fun w85 H85 => ?_)
  refine Am ?_
  refine Qn (Rb (QfnC_ret (h := ?_)))
  exact ⟨_, resC2 H85, made_out (t := ⟨3, nn⟩) (ok := n3) (by rw [hres, if_pos (by omega), hnn, hn3]; simp only [decide_eq_true_eq]), H85.kept⟩
 refine FW_region (Ve ?_)
 refine Am ?_
 refine Qn (Cp rfl (fun hc90 => ?_) (fun hc90 => ?_))
 ·refine Sr (Mv ?_)
  refine Vv (Gives.build (out := typeCells ⟨3, nn⟩) (Fills.one rfl rfl rfl (by simp) rfl (Fills.one rfl rfl rfl (by simp) rfl Fills.nil))) (Mv ?_)
  refine FL_storeAll H56 (h := fun w95 H95 => ?_)
  refine Am ?_
  refine Qn (Rb (QfnC_ret (h := ?_)))
  exact ⟨_, resC2 H95, made_out (t := ⟨3, nn⟩) (ok := n3) (by rw [hres, if_pos (by omega), hnn, hn3]; simp only [decide_eq_true_eq]), H95.kept⟩
 refine FW_seq (Sr (Ve ?_))
 refine Am ?_
 refine Qn (Cp rfl (fun hc100 => ?_) (fun hc100 => ?_))
 ·refine Sk (FW_cond_true (congrArg Value.bool (decide_eq_true hc100)) ?_)
  refine FW_seq (FW_drawS rfl H56 (h := fun hok101 w103 H103 => ?_))
  refine Gm hok101 0 ?_
  refine Gp hok101 1 rfl rfl (fun _ => (Gives.build (out := typeCells ⟨1, nn⟩) (Fills.one rfl rfl rfl (by simp) rfl (Fills.one rfl rfl rfl (by simp) rfl Fills.nil)))) (Gp hok101 2 rfl rfl (fun _ => (Gives.field0 rfl)) ?_)
  refine FGload hok101 3 H103 (h := ?_)
  refine Gp hok101 4 rfl rfl (fun _ => (Gives.field0 rfl)) (FGload hok101 5 H103 (h := ?_))
  refine Gp hok101 6 rfl rfl (fun _ => (Gives.eql rfl rfl)) (FGstoreAll hok101 7 [(6, true), (5, false), (4, true), (3, false), (2, true)] H103 (h := fun w111 H111 => ⟨Stab_pure (Stab_load H111 (h := Stab_pure (Stab_load H111 (h := Stab_pure (Stab_nil))))), ?_⟩))
  refine Gp hok101 8 rfl rfl (fun _ => Gives.assign rfl) (FG_end hok101 (by kernel_rfl) ?_)
  refine Qseq_normal (Rb (QfnC_ret (h := ?_)))
  exact ⟨_, resC2 H111, made_out (t := ⟨1, nn⟩) (ok := decide (a.kind = b.kind)) (by rw [hres, if_neg (by omega), if_pos (by omega), hnn]; simp only [decide_eq_true_eq]), H111.kept⟩
 refine FW_region (Ve ?_)
 refine Am ?_
 refine Qn (Cp rfl (fun hc116 => ?_) (fun hc116 => ?_))
 ·refine FW_seq (FW_drawS rfl H56 (h := fun hok117 w119 H119 => ?_))
  refine Gm hok117 0 ?_
  refine Gp hok117 1 rfl rfl (fun _ => (Gives.build (out := typeCells ⟨1, nn⟩) (Fills.one rfl rfl rfl (by simp) rfl (Fills.one rfl rfl rfl (by simp) rfl Fills.nil)))) (Gp hok117 2 rfl rfl (fun _ => (Gives.field0 rfl)) ?_)
  refine FGload hok117 3 H119 (h := ?_)
  refine Gp hok117 4 rfl rfl (fun _ => (Gives.field0 rfl)) (FGload hok117 5 H119 (h := ?_))
  refine Gp hok117 6 rfl rfl (fun _ => (Gives.eql rfl rfl)) (FGstoreAll hok117 7 [(6, true), (5, false), (4, true), (3, false), (2, true)] H119 (h := fun w127 H127 => ⟨Stab_pure (Stab_load H127 (h := Stab_pure (Stab_load H127 (h := Stab_pure (Stab_nil))))), ?_⟩))
  refine Gp hok117 8 rfl rfl (fun _ => Gives.assign rfl) (FG_end hok117 (by kernel_rfl) ?_)
  refine Qseq_normal (Rb (QfnC_ret (h := ?_)))
  exact ⟨_, resC2 H127, made_out (t := ⟨1, nn⟩) (ok := decide (a.kind = b.kind)) (by rw [hres, if_neg (by omega), if_pos (by omega), hnn]; simp only [decide_eq_true_eq]), H127.kept⟩
 refine FW_seq (Sr (Ve ?_))
 refine Am ?_
 refine Qn (Cp rfl (fun hc132 => ?_) (fun hc132 => ?_))
 ·refine Sk (FW_cond_true (congrArg Value.bool (decide_eq_true hc132)) ?_)
  refine Sr (Mv ?_)
  refine Vv (Gives.build (out := typeCells ⟨1, nn⟩) (Fills.one rfl rfl rfl (by simp) rfl (Fills.one rfl rfl rfl (by simp) rfl Fills.nil))) (Mv ?_)
  refine FL_storeAll H56 (h := fun w137 H137 => ?_)
  refine Am ?_
  refine Qn (Rb (QfnC_ret (h := ?_)))
  exact ⟨_, resC2 H137, made_out (t := ⟨1, nn⟩) (ok := n1) (by rw [hres, if_neg (by omega), if_neg (by omega), if_pos (by omega), hnn, hn1]; simp only [decide_eq_true_eq]), H137.kept⟩
 refine Sr (Ve ?_)
 refine Am ?_
 refine Qn (Cp rfl (fun hc142 => ?_) (fun hc142 => ?_))
 ·refine Sk (FW_cond_true (congrArg Value.bool (decide_eq_true hc142)) ?_)
  refine Sr (Mv ?_)
  refine Vv (Gives.build (out := typeCells ⟨1, nn⟩) (Fills.one rfl rfl rfl (by simp) rfl (Fills.one rfl rfl rfl (by simp) rfl Fills.nil))) (Mv ?_)
  refine FL_storeAll H56 (h := fun w147 H147 => ?_)
  refine Am ?_
  refine Qn (Rb (QfnC_ret (h := ?_)))
  exact ⟨_, resC2 H147, made_out (t := ⟨1, nn⟩) (ok := n1) (by rw [hres, if_neg (by omega), if_neg (by omega), if_pos (by omega), hnn, hn1]; simp only [decide_eq_true_eq]), H147.kept⟩
 refine FW_region (Ve ?_)
 refine Am ?_
 refine Qn (Cp rfl (fun hc152 => ?_) (fun hc152 => ?_))
 ·refine Sr (Mv ?_)
  refine Vv (Gives.build (out := typeCells ⟨1, nn⟩) (Fills.one rfl rfl rfl (by simp) rfl (Fills.one rfl rfl rfl (by simp) rfl Fills.nil))) (Mv ?_)
  refine FL_storeAll H56 (h := fun w157 H157 => ?_)
  refine Am ?_
  refine Qn (Rb (QfnC_ret (h := ?_)))
  exact ⟨_, resC2 H157, made_out (t := ⟨1, nn⟩) (ok := n1) (by rw [hres, if_neg (by omega), if_neg (by omega), if_pos (by omega), hnn, hn1]; simp only [decide_eq_true_eq]), H157.kept⟩
 refine Sr (Ve ?_)
 refine Am ?_
 refine Qn (Cp rfl (fun hc162 => ?_) (fun hc162 => ?_))
 ·refine Sr (Vv (Gives.build (out := typeCells ⟨1, false⟩) (Fills.one rfl rfl rfl (by simp) rfl Fills.nil)) (FL_storeAll H56 (h := fun w165 H165 => ?_)))
  refine Am ?_
  refine Qn (Rb (QfnC_ret (h := ?_)))
  exact ⟨_, resC2 H165, made_out (t := ⟨1, false⟩) (ok := true) (by rw [hres, if_neg (by omega), if_neg (by omega), if_neg (by omega), if_pos (by omega)]; rfl), H165.kept⟩
 refine Sr (Ve ?_)
 refine Am ?_
 refine Qn (Cp rfl (fun hc170 => ?_) (fun hc170 => ?_))
 ·refine FW_seq (FW_drawS rfl H56 (h := fun hok171 w173 H173 => ?_))
  refine Gp hok171 0 rfl rfl (fun _ => (Gives.field0 rfl)) (FGload hok171 1 H173 (h := ?_))
  refine Gp hok171 2 rfl rfl (fun _ => (Gives.field0 rfl)) (FGload hok171 3 H173 (h := ?_))
  refine Gm hok171 4 ?_
  refine FG_split (t := 68) rfl (fun hs178 => ?_) (fun hs178 => ?_)
  ·have hny : (a.null && b.null) = b.null := by rw [hs178]; rfl
   refine Gp hok171 5 rfl rfl (fun _ => (Gives.field0 rfl)) (FGload hok171 6 H173 (h := ?_))
   refine Gp hok171 7 rfl rfl (fun _ => Gives.pickT rfl rfl) (Gp hok171 8 rfl rfl (fun _ => (Gives.build (out := typeCells ⟨a.kind, b.null⟩) (Fills.one rfl rfl rfl (by simp) rfl (Fills.one rfl rfl rfl (by simp) rfl Fills.nil)))) ?_)
   refine Gp hok171 9 rfl rfl (fun _ => (Gives.field0 rfl)) (FGload hok171 10 H173 (h := ?_))
   refine Gp hok171 11 rfl rfl (fun _ => (Gives.field0 rfl)) (FGload hok171 12 H173 (h := ?_))
   refine Gp hok171 13 rfl rfl (fun _ => (Gives.eql rfl rfl)) (FGstoreAll hok171 14 [(13, true), (12, false), (11, true), (10, false), (9, true)] H173 (h := fun w190 H190 => ⟨Stab_pure (Stab_load H190 (h := Stab_pure (Stab_load H190 (h := Stab_pure (Stab_nil))))), ?_⟩))
   refine Gp hok171 15 rfl rfl (fun _ => Gives.assign rfl) (FG_end hok171 (by kernel_rfl) ?_)
   refine Qseq_normal (Rb (QfnC_ret (h := ?_)))
   exact ⟨_, resC2 H190, made_out (t := ⟨a.kind, b.null⟩) (ok := decide (a.kind = b.kind)) (by rw [hres, if_neg (by omega), if_neg (by omega), if_neg (by omega), if_neg (by omega), if_pos (by omega), hny]; simp only [decide_eq_true_eq]), H190.kept⟩
  have hny : (a.null && b.null) = false := by rw [hs178]; rfl
  refine FGoff hok171 5 rfl rfl (by kernel_rfl) ?_
  refine FGoff hok171 6 rfl rfl (by kernel_rfl) ?_
  refine Gp hok171 7 rfl rfl (fun _ => Gives.pickF rfl rfl) (Gp hok171 8 rfl rfl (fun _ => (Gives.build (out := typeCells ⟨a.kind, false⟩) (Fills.one rfl rfl rfl (by simp) rfl (Fills.one rfl rfl rfl (by simp) rfl Fills.nil)))) ?_)
  refine Gp hok171 9 rfl rfl (fun _ => (Gives.field0 rfl)) (FGload hok171 10 H173 (h := ?_))
  refine Gp hok171 11 rfl rfl (fun _ => (Gives.field0 rfl)) (FGload hok171 12 H173 (h := ?_))
  refine Gp hok171 13 rfl rfl (fun _ => (Gives.eql rfl rfl)) (FGstoreAll hok171 14 [(13, true), (12, false), (11, true), (10, false), (9, true)] H173 (h := fun w202 H202 => ⟨Stab_pure (Stab_load H202 (h := Stab_pure (Stab_load H202 (h := Stab_pure (Stab_nil))))), ?_⟩))
  refine Gp hok171 15 rfl rfl (fun _ => Gives.assign rfl) (FG_end hok171 (by kernel_rfl) ?_)
  refine Qseq_normal (Rb (QfnC_ret (h := ?_)))
  exact ⟨_, resC2 H202, made_out (t := ⟨a.kind, false⟩) (ok := decide (a.kind = b.kind)) (by rw [hres, if_neg (by omega), if_neg (by omega), if_neg (by omega), if_neg (by omega), if_pos (by omega), hny]; simp only [decide_eq_true_eq]), H202.kept⟩
 refine FW_skip (Qblk_normal (Qseq_normal (FW_seq (FW_drawS rfl H56 (h := fun hok205 w207 H207 => ?_)))))
 refine Gm hok205 0 ?_
 refine Gp hok205 1 rfl rfl (fun _ => (Gives.build (out := typeCells ⟨3, nn⟩) (Fills.one rfl rfl rfl (by simp) rfl (Fills.one rfl rfl rfl (by simp) rfl Fills.nil)))) (Gp hok205 2 rfl rfl (fun _ => (Gives.field0 rfl)) ?_)
 refine FGload hok205 3 H207 (h := ?_)
 refine Gp hok205 4 rfl rfl (fun _ => (Gives.eql rfl rfl)) (Gm hok205 5 ?_)
 refine FG_splitP (t := 83) rfl (fun hs212 => ?_) (fun hs212 => ?_)
 ·refine FGoff hok205 6 rfl rfl (by kernel_rfl) ?_
  refine FGoff hok205 7 rfl rfl (by kernel_rfl) ?_
  refine FGoff hok205 8 rfl rfl (by kernel_rfl) ?_
  refine Gp hok205 9 rfl rfl (fun _ => Gives.pickT rfl rfl) (FGstoreAll hok205 10 [(9, true), (8, true), (7, true), (6, true)] H207 (h := fun w215 H215 => ⟨Stab_pure (Stab_pure (Stab_pure (Stab_pure (Stab_nil)))), ?_⟩))
  refine Gp hok205 11 rfl rfl (fun _ => Gives.assign rfl) (FG_end hok205 (by kernel_rfl) ?_)
  refine Qseq_normal (FW_ret (QfnC_ret (h := ?_)))
  exact ⟨_, resC2 H215, made_out (t := ⟨3, nn⟩) (ok := true) (by rw [hres, if_neg (by omega), if_neg (by omega), if_neg (by omega), if_neg (by omega), if_neg (by omega), hnn, if_pos (.inl (by assumption))]; rfl), H215.kept⟩
 refine Gp hok205 6 rfl rfl (fun _ => (Gives.field0 rfl)) (FGload hok205 7 H207 (h := ?_))
 refine Gp hok205 8 rfl rfl (fun _ => (Gives.eql rfl rfl)) (Gp hok205 9 rfl rfl (fun _ => Gives.pickF rfl rfl) ?_)
 refine FGstoreAll hok205 10 [(9, true), (8, true), (7, false), (6, true)] H207 (h := fun w223 H223 => ⟨Stab_pure (Stab_pure (Stab_load H223 (h := Stab_pure (Stab_nil)))), ?_⟩)
 refine Gp hok205 11 rfl rfl (fun _ => Gives.assign rfl) (FG_end hok205 (by kernel_rfl) ?_)
 refine Qseq_normal (FW_ret (QfnC_ret (h := ?_)))
 exact ⟨_, resC2 H223, made_out (t := ⟨3, nn⟩) (ok := decide (a.kind = 5)) (by rw [hres, if_neg (by omega), if_neg (by omega), if_neg (by omega), if_neg (by omega), if_neg (by omega), hnn]; simp [*]), H223.kept⟩
end
end Go.Proofs.YtolaedhdjcnijaaGreatDoor
namespace Go.Mw
open Go.RowKit
section
variable {P : Program} {r : Option Nat} {n : Nat} {ops : Array Oper} {Q : Post} {lv : List Bool} {pd : List (Nat × Bool)} {σ : St} {w : World}
def effectIn (ops : Array Oper) (lv : List Bool) (ids : List Nat) (e : Nat) : Bool :=
 (readyL ops lv).contains e &&
 ids.all fun k => (preds ops e).contains k || ((match dstOf ops e with | some d => dstOf ops k != some d && !(looks ops k).contains d | none => true) &&
  (match dstOf ops k with | some d => !(looks ops e).contains d | none => true))
def EffStep (P : Program) (r : Option Nat) (n : Nat) (ops : Array Oper) (Q : Post) (lv : List Bool) (pd : List (Nat × Bool)) (σ : St) (w : World) (e : Nat) : Prop :=
 ∀ sub lr a, Real P n ops lv pd σ w sub lr a → (∀ k ∈ preds ops e, lr.getD k false = true) → wpOpIn (fen r) 0 P ops (lift n Q) e (wpAnyIn (fen r) 0 P .any ops (lift n Q) (left ops (lr.setIfInBounds e true)) (lr.setIfInBounds e true)) a w
theorem FG_two (hok : okOps n ops = true) {e1 e2 : Nat} (hre : (readyL ops lv == [e1, e2]) = true) (h1 : EffStep P r n ops Q lv pd σ w e1) (h2 : EffStep P r n ops Q lv pd σ w e2) : FG P r n ops Q lv pd σ w := by
 have hre' : readyL ops lv = [e1, e2] := by simpa using hre
 refine FG_core hok (fun h0 => by rw [h0] at hre'; cases hre') fun e he sub lr a hr hpre => ?_
 rw [hre'] at he
 rcases List.mem_cons.1 he with rfl | he
 ·exact h1 sub lr a hr hpre
 rw [List.mem_singleton] at he
 subst he
 exact h2 sub lr a hr hpre
theorem eff_step (hok : okOps n ops = true) {e' : Nat} {o : Oper} (ho : ops[e']? = some o) (hck : effectIn ops lv (pd.map (·.1)) e' = true) (hw : Region.wanted o (yieldF ops σ) = true) (pd' : List (Nat × Bool)) (hpd : pd.filter (fun p => !((above ops e').contains p.1)) = pd')
    (h : EffK P σ w o fun σ' w' => Stab P ops σ' w' pd' ∧ FG P r n ops Q (lv.set e' true) pd' σ' w') : EffStep P r n ops Q lv pd σ w e' := by
  unfold effectIn at hck
  simp only [Bool.and_eq_true, List.all_eq_true] at hck
  obtain ⟨hmr0, hids⟩ := hck
  have hmr : e' ∈ readyL ops lv := List.contains_iff_mem.1 hmr0
  intro sub lr a hr hpre
  have hlt := (Array.getElem?_eq_some_iff.1 ho).1
  have hdo := dstOf_eq ho
  obtain ⟨hod, hopl⟩ := okOps_at hok ho
  have hrd := readyL_iff.1 hmr
  have h0' := getDL_false hrd.1
  obtain ⟨σr, hrep, hds, hσ⟩ := hr.rep
  have hnp : ∀ p ∈ sub, p.1 ∉ preds ops e' := fun p hp hm => by have := hpre _ hm; rw [hr.sub_not hp] at this; cases this
  have hids' : ∀ p ∈ sub, (∀ d, o.dst = some d → dstOf ops p.1 ≠ some d ∧ d ∉ looks ops p.1) ∧ ∀ d, dstOf ops p.1 = some d → d ∉ looks ops e' := fun p hp => by
    have := hids p.1 (List.mem_map.2 ⟨p, hr.mem p hp, rfl⟩)
    rw [Bool.or_eq_true] at this
    rcases this with h1 | h1
    · exact absurd (List.contains_iff_mem.1 h1) (hnp p hp)
    rw [Bool.and_eq_true, hdo] at h1
    refine ⟨fun d hd => ?_, fun d hd => ?_⟩
    · have h2 := h1.1
      rw [hd] at h2
      simpa using h2
    have h2 := h1.2
    rw [hd] at h2
    simpa using h2
  have hlook : ∀ x ∈ looks ops e', σr x = σ x := fun x hx => hσ x fun p hp hd => (hids' p hp).2 x hd hx
  have hnext : ∀ (v : Value) (w' : World) (a' : Act), Rep n (updO σr o.dst v) a' → Stab P ops (updO σ o.dst v) w' pd' → Real P n ops (lv.set e' true) pd' (updO σ o.dst v) w' sub (lr.setIfInBounds e' true) a' := by
    intro v w' a' ha' hst
    have hmem : ∀ p ∈ sub, p ∈ pd' := fun p hp => by
      rw [← hpd, List.mem_filter]
      refine ⟨hr.mem p hp, ?_⟩
      cases hc : (above ops e').contains p.1
      · rfl
      have := above_listed hr hpre p.1 (List.contains_iff_mem.1 hc)
      rw [hr.sub_not hp] at this; cases this
    refine ⟨hmem, hr.nd, hr.pw, fun p hp k hk => ⟨getDL_set (hr.pr p hp k hk).1, (hr.pr p hp k hk).2⟩, fun p hp => getDL_set (hr.lvl p hp), fun k hk => ?_, by simpa using hr.sz, by simpa using hr.lsz, fun k hk j hj => ?_, ⟨_, ha', by simpa [updO_ds] using hds, fun x hx => ?_⟩,
      fun p hp => ?_, hr.own, hr.apart⟩
    · by_cases hke : e' = k
      · subst hke
        have h1 : (lr.setIfInBounds e' true).getD e' true = true := by
          simp [Array.getD_eq_getD_getElem?, Array.getElem?_setIfInBounds]
          split <;> rfl
        rw [h1, getDL_set_same _ (by rw [hr.lsz]; exact hlt)]
        cases hc : (sub.map (·.1)).contains e'
        · rfl
        obtain ⟨p, hp, e1⟩ := List.mem_map.1 (List.contains_iff_mem.1 hc)
        have := hr.lvl p hp
        rw [e1, h0'] at this; cases this
      rw [getD_set_ne true hke, getDL_set_ne hke, hr.lrv k hk]
    · by_cases hke : e' = k
      · subst hke; exact getD_set_true (hpre j hj)
      rw [getD_set_ne false hke] at hk; exact getD_set_true (hr.cl k hk j hj)
    · by_cases hd : o.dst = some x
      · rw [hd]; show upd σr x v x = upd σ x v x; rw [upd_same, upd_same]
      rw [updO_other hd, updO_other hd]; exact hσ x hx
    cases hf : p.2 with
    | false =>
      obtain ⟨o', v', ho', hv', hy'⟩ := hst.get p (hmem p hp) hf
      refine ⟨o', v', ho', hv', fun w'' hw'' => ?_⟩
      rcases hw'' with hw'' | hw''
      · cases hw''
      rw [hw'']; exact hy'
    | true =>
      obtain ⟨o', v', ho', hv', hy'⟩ := hr.yl p hp
      refine ⟨o', v', ho', fun d hd => ?_, fun w'' _ => (hy' w'' (.inl hf)).congr ho' (okOps_at hok ho').2 fun x hx => (updO_other fun e1 => ((hids' p hp).1 x e1).2 hx).symm⟩
      rw [updO_other (fun e1 => ((hids' p hp).1 d e1).1 (by rw [dstOf_eq ho', hd]))]; exact hv' d hd
  unfold wpOpIn
  simp only [ho]
  have hww : Region.wanted o (yielded ops a.tmps) = true := by
    rw [hrep.yielded ops (okOps_dst hok), wanted_congr ho hlook]; exact hw
  rw [if_pos hww]
  refine ⟨fun _ _ => trivial, ?_⟩
  unfold EffK at h
  have hsem : (o.semAt (fen r).round a.eval) = execOp (evF σ) o := by
    rw [Oper.semAt_eq _ _ _ fun c hc => ?_, hrep.eval, exec_congr ho hopl hlook]
    have hne : ∀ x w', (execOp (evF σ) o).run P w = .ok x w' → ∃ d, x = .defer d := fun x w' hx => by
      unfold execOp at hx
      rw [hc] at hx
      simp only [Sem.run_bind] at hx
      cases hr : (resolve (evF σ) c o.type).run P w <;> rw [hr] at hx <;> simp [Result.andThen] at hx
      exact ⟨_, hx.1.symm⟩
    cases hx : (execOp (evF σ) o).run P w with
    | halt x w' => rw [hx] at h; exact h
    | ok x w' =>
      obtain ⟨d, rfl⟩ := hne x w' hx
      rw [hx] at h; exact h
  rw [hsem]
  generalize (execOp (evF σ) o).run P w = res at h ⊢
  cases res with
  | halt x w' => exact h.elim
  | ok nx w' =>
    cases nx with
    | value v => exact h.2 _ _ _ (hnext v w' _ (hrep.putO hod v) h.1)
    | skip => exact h.2 _ _ _ (hnext undef w' _ (hrep.putO hod undef) h.1)
    | enter f args =>
      refine ⟨(fun h => by cases h), fen_calls r (Calls.mono h fun en w'' hen => ?_)⟩
      cases en with
      | returned v => exact hen.2 _ _ _ (hnext v w'' _ (hrep.putO hod v) hen.1)
      | _ => exact hen.elim
    | _ => exact h.elim

theorem step_call (hok : okOps n ops = true) (e : Nat) (pd' : List (Nat × Bool)) {dst : Option Nat} {f : FuncId} {xs : List Operand} {ats : Array TypeId} {vals : List Value} {R : Value → World → Prop} {ty : TypeId} {pos : String} {after : Array Edge} {guard : Option (Nat × Bool)} [he : Enters P f]
    (ho : ops[e]? = some { dst := dst, op := .call { callee := .value (.func f), args := xs.toArray, argTypes := ats }, type := ty, pos := pos, after := after, guard := guard })
    (hw : Region.wanted { dst := dst, op := .call { callee := .value (.func f), args := xs.toArray, argTypes := ats }, type := ty, pos := pos, after := after, guard := guard } (yieldF ops σ) = true) (hc : Rets P f vals w R) (hv : xs.map (evF σ) = vals) (hck : effectIn ops lv (pd.map (·.1)) e = true)
    (hpd : pd.filter (fun p => !((above ops e).contains p.1)) = pd') (h : ∀ v w', R v w' → Stab P ops (updO σ dst v) w' pd' ∧ FG P r n ops Q (lv.set e true) pd' (updO σ dst v) w') : EffStep P r n ops Q lv pd σ w e := by
  refine eff_step hok ho hck hw pd' hpd ?_
  unfold EffK
  have e1 : execOp (evF σ) { dst := dst, op := .call { callee := .value (.func f), args := xs.toArray, argTypes := ats }, type := ty, pos := pos, after := after, guard := guard } = callFunc f (#[] ++ xs.toArray.map (evF σ) ++ #[]) := rfl
  have e2 : (#[] ++ xs.toArray.map (evF σ) ++ #[] : Array Value) = vals.toArray := by simp [hv]
  rw [e1, he.run, e2]
  refine Calls.mono hc fun en w'' hr => ?_
  cases en with
  | returned v => exact h v w'' hr
  | _ => exact hr.elim
theorem step_val (hok : okOps n ops = true) (e : Nat) (pd' : List (Nat × Bool)) {d : Nat} {op : Op} {ty : TypeId} {pos : String} {after : Array Edge} {guard : Option (Nat × Bool)} {C : Value → World → Prop} (ho : ops[e]? = some { dst := some d, op := op, type := ty, pos := pos, after := after, guard := guard })
    (hw : Region.wanted { dst := some d, op := op, type := ty, pos := pos, after := after, guard := guard } (yieldF ops σ) = true) (hg : ∃ v w', Gives P (evF σ) op ty w v w' ∧ C v w') (hck : effectIn ops lv (pd.map (·.1)) e = true)
    (hpd : pd.filter (fun p => !((above ops e).contains p.1)) = pd') (h : ∀ v w', C v w' → Stab P ops (upd σ d v) w' pd' ∧ FG P r n ops Q (lv.set e true) pd' (upd σ d v) w') : EffStep P r n ops Q lv pd σ w e := by
  obtain ⟨v, w', hg, hC⟩ := hg
  refine eff_step hok ho hck hw pd' hpd ?_
  unfold EffK
  rw [hg]
  exact h v w' hC
theorem step_alloc {w₀ : World} {S : Nat → Prop} {rs : List HP} (hok : okOps n ops = true) (i : Nat) (pd' : List (Nat × Bool)) {d : Nat} {T : TypeId} {ty : TypeId} {pos : String} {after : Array Edge} {guard : Option (Nat × Bool)} {z : Value} [hz : Zero P T z] {cs : List Value} (H : Sep w₀ S rs w) (ho : ops[i]? = some { dst := some d, op := .alloc T, type := ty, pos := pos, after := after, guard := guard } := by exact rfl)
    (hw : Region.wanted { dst := some d, op := .alloc T, type := ty, pos := pos, after := after, guard := guard } (yieldF ops σ) = true := by kernel_rfl) (hcs : z.cells = cs.toArray := by exact rfl)
    (hck : effectIn ops lv (pd.map (·.1)) i = true := by kernel_rfl) (hpd : pd.filter (fun p => !((above ops i).contains p.1)) = pd' := by kernel_rfl)
    (h : ∀ b w', Sep w₀ S (blk b cs T :: rs) w' → Stab P ops (upd σ d (.pointer (some ⟨b, 0, none⟩))) w' pd' ∧ FG P r n ops Q (lv.set i true) pd' (upd σ d (.pointer (some ⟨b, 0, none⟩))) w') : EffStep P r n ops Q lv pd σ w i :=
  step_val (C := fun v w' => ∃ b, v = .pointer (some ⟨b, 0, none⟩) ∧ Sep w₀ S (blk b cs T :: rs) w') hok i pd' ho hw
    ⟨.pointer (some ⟨w.heap.size, 0, none⟩), w.alloc (.cells cs.toArray T), fun _ _ _ _ => by simp [execOp, Instr.alloc, hz.run, newVar, newRow, hcs], _, rfl, H.alloc _⟩ hck hpd
    (fun v w' hv => by obtain ⟨b, rfl, hs⟩ := hv; exact h b w' hs)
end
end Go.Mw
namespace Go.Mw
open Go.RowKit
def rowD {α : Type} (e k : Nat) (enc : α → List Value) (v : Value) (l : List α) : HP := rowH e k v l.length (l.flatMap enc)
section
variable {α : Type} {enc : α → List Value} {k e : Nat} {l news : List α} {A : Option Addr} {w w' w₀ : World} {S : Nat → Prop} {rs : List HP} {put : HP → List HP} {v : Value}
theorem Sep.nilD (H : Sep w₀ S rs w) (e k : Nat) (enc : α → List Value) : Sep w₀ S (rowD e k enc (.slice none 0 0) [] :: rs) w := H.nilRow e k
theorem Sep.formD (H : Sep w₀ S rs w) (hat : At rs (rowD e k enc v l) put) : ∃ A c, v = .slice A l.length c ∧ l.length ≤ c ∧ Rd w A enc k l := by
 obtain ⟨A, c, hv, hle, _, _⟩ := Sep.rowForm H hat
 subst hv
 exact ⟨A, c, rfl, hle, Sep.rowAt H hat⟩
theorem flat_take (hk : ∀ x, (enc x).length = k) : ∀ (l : List α) (m : Nat), (l.take m).flatMap enc = (l.flatMap enc).take (m * k)
 | _, 0 => by simp
 | [], m + 1 => by simp
 | a :: l, m + 1 => by
  rw [List.take_succ_cons, List.flatMap_cons, List.flatMap_cons, flat_take hk l m, List.take_append, hk, Nat.succ_mul, Nat.add_sub_cancel, List.take_of_length_le (l := enc a) (by rw [hk]; omega)]
theorem Sep.cutD [hk : EncK enc k] {c m : Nat} (H : Sep w₀ S rs w) (hat : At rs (rowD e k enc (.slice A l.length c) l) put) (hm : m ≤ l.length) : Sep w₀ S (put (rowD e k enc (.slice A m c) (l.take m))) w := by
 refine H.imp hat fun F hF => ?_
 obtain ⟨⟨h1, h2⟩, h3⟩ := hF
 have hlm : (l.take m).length = m := by rw [List.length_take]; omega
 refine ⟨?_, fun b => by rw [h3 b]; cases A <;> simp [Value.ownBlock]⟩
 show w.ownsRow 0 e k _ (l.take m).length ((l.take m).flatMap enc)
 rw [hlm, flat_take hk.len]
 refine ⟨by rw [List.length_take, h1]; exact Nat.min_eq_left (Nat.mul_le_mul_right k hm), ?_⟩
 rcases h2 with ⟨hv, h0⟩ | ⟨g, cap, cur, hv, hg, hh, hle, hmax, hsz, htk⟩
 ·injection hv with ha hb hc
  subst ha; subst hc
  left
  have : m = 0 := by omega
  subst this
  exact ⟨rfl, rfl⟩
 injection hv with ha hb hc
 subst ha; subst hc
 refine .inr ⟨g, c, cur, rfl, hg, hh, by omega, hmax, hsz, ?_⟩
 rw [← htk, List.take_take, Nat.min_eq_left (Nat.mul_le_mul_right k hm)]
theorem gives_appendD {P : Program} {ρ : Operand → Value} {ty : TypeId} {x y : Operand} {t b c bytes : Nat} [hs : IsSlice P t e] [hc : Cells P e k bytes] {z : Value} [hz : Zero P e z] [hk : EncK enc k]
    (H : Sep w₀ S (blk b (news.flatMap enc) e :: rs) w) (hx : ρ x = v) (hy : ρ y = .slice (some ⟨b, 0, none⟩) c c) (hc' : c = news.length) (hat : At rs (rowD e k enc v l) put) (hone : ∀ u ∈ news.flatMap enc, u.oneCell' = true)
    (hk0 : 0 < k) (hzs : z.cells.size = k) (h63 : l.length + news.length ≤ maxLen) (hbytes : (l.length + news.length) * bytes ≤ 140737488355328) :
    ∃ v' w', Gives P ρ (.call { callee := .builtin .append, args := #[x, y], argTypes := #[t, t] }) ty w v' w' ∧ Sep w₀ S (put (rowD e k enc v' (l ++ news))) w' := by
  subst hc'
  have hr : RowAt w (some ⟨b, 0, none⟩) news.length k (news.flatMap enc) := Sep.blkRow H At0 (flat_len hk.len news)
  have H2 := H.drop0
  obtain ⟨F, hp, _, _⟩ := H2.focus hat
  obtain ⟨v', w', hrun, hown, hg, hb⟩ := run_append (P := P) (ty := ty) t e (z := z) hk0 hzs v l.length (l.flatMap enc) hp.1 (some ⟨b, 0, none⟩) news.length news.length (news.flatMap enc) hr hone h63 hbytes
  refine ⟨v', w', fun _ _ _ _ => ?_, ?_⟩
  · simp only [execOp, resolve, invoke, builtin, Sem.run_bind, Sem.run_pure, Result.andThen_ok, List.map_toArray, List.map_cons, List.map_nil, hx, hy, hrun]
  refine H2.rowTurn hat hg ?_ (by rcases hb with e | e <;> simp [e])
  rw [← List.flatMap_append] at hown
  rw [List.length_append]
  exact hown
end
section
variable {P : Program} {r : Option Nat} {n : Nat} {ops : Array Oper} {Q : Post} {rest : List Oper} {σ : St} {w w' w₀ : World} {S : Nat → Prop} {rs : List HP} {put : HP → List HP} {ty : TypeId} {pos : String} {after : Array Edge} {guard : Option (Nat × Bool)} {lv : List Bool} {pd : List (Nat × Bool)} {α : Type} {enc : α → List Value} {k e : Nat} {l news : List α} {v : Value}
theorem FL_appendD {d : Nat} {x y : Operand} {t b c bytes : Nat} [hs : IsSlice P t e] [hc : Cells P e k bytes] {z : Value} [hz : Zero P e z] [hk : EncK enc k]
    (H : Sep w₀ S (blk b (news.flatMap enc) e :: rs) w) (hat : At rs (rowD e k enc v l) put) (h63 : l.length + news.length ≤ maxLen) (hbytes : (l.length + news.length) * bytes ≤ 140737488355328) (hone : ∀ u ∈ news.flatMap enc, u.oneCell' = true)
    (hx : evF σ x = v := by exact rfl) (hy : evF σ y = .slice (some ⟨b, 0, none⟩) c c := by exact rfl) (hc' : c = news.length := by exact rfl) (hk0 : 0 < k := by decide) (hzs : z.cells.size = k := by exact rfl) (hd : Nat.blt d n = true := by exact rfl)
    (h : ∀ v' w', Sep w₀ S (put (rowD e k enc v' (l ++ news))) w' → FL P r n ops Q rest (upd σ d v') w') :
    FL P r n ops Q ({ dst := some d, op := .call { callee := .builtin .append, args := #[x, y], argTypes := #[t, t] }, type := ty, pos := pos, after := after, guard := none } :: rest) σ w := by
  obtain ⟨v', w', hg, hs'⟩ := gives_appendD (P := P) (t := t) (ty := ty) H hx hy hc' hat hone hk0 hzs h63 hbytes
  exact FL_val hg hd (h v' w' hs')
theorem FGappendD (hok : okOps n ops = true) (i : Nat) (pd' : List (Nat × Bool)) {d : Nat} {x y : Operand} {t b c bytes : Nat} [hs : IsSlice P t e] [hc : Cells P e k bytes] {z : Value} [hz : Zero P e z] [hk : EncK enc k]
    (H : Sep w₀ S (blk b (news.flatMap enc) e :: rs) w) (hat : At rs (rowD e k enc v l) put) (h63 : l.length + news.length ≤ maxLen) (hbytes : (l.length + news.length) * bytes ≤ 140737488355328) (hone : ∀ u ∈ news.flatMap enc, u.oneCell' = true)
    (ho : ops[i]? = some { dst := some d, op := .call { callee := .builtin .append, args := #[x, y], argTypes := #[t, t] }, type := ty, pos := pos, after := after, guard := guard } := by exact rfl)
    (hw : Region.wanted { dst := some d, op := .call { callee := .builtin .append, args := #[x, y], argTypes := #[t, t] }, type := ty, pos := pos, after := after, guard := guard } (yieldF ops σ) = true := by kernel_rfl)
    (hx : evF σ x = v := by exact rfl) (hy : evF σ y = .slice (some ⟨b, 0, none⟩) c c := by exact rfl) (hc' : c = news.length := by exact rfl) (hk0 : 0 < k := by decide) (hzs : z.cells.size = k := by exact rfl)
    (hck : effectOk ops lv (pd.map (·.1)) i = true := by kernel_rfl) (hpd : pd.filter (fun p => !((above ops i).contains p.1)) = pd' := by kernel_rfl)
    (h : ∀ v' w', Sep w₀ S (put (rowD e k enc v' (l ++ news))) w' → Stab P ops (upd σ d v') w' pd' ∧ FG P r n ops Q (lv.set i true) pd' (upd σ d v') w') : FG P r n ops Q lv pd σ w :=
  FGval hok i pd' ho hw (gives_appendD (P := P) (t := t) (ty := ty) H hx hy hc' hat hone hk0 hzs h63 hbytes) hck hpd h
theorem FGalloc (hok : okOps n ops = true) (i : Nat) (pd' : List (Nat × Bool)) {d : Nat} {T : TypeId} {z : Value} [hz : Zero P T z] {cs : List Value} (H : Sep w₀ S rs w) (ho : ops[i]? = some { dst := some d, op := .alloc T, type := ty, pos := pos, after := after, guard := guard } := by exact rfl)
    (hw : Region.wanted { dst := some d, op := .alloc T, type := ty, pos := pos, after := after, guard := guard } (yieldF ops σ) = true := by kernel_rfl) (hcs : z.cells = cs.toArray := by exact rfl)
    (hck : effectOk ops lv (pd.map (·.1)) i = true := by kernel_rfl) (hpd : pd.filter (fun p => !((above ops i).contains p.1)) = pd' := by kernel_rfl)
    (h : ∀ b w', Sep w₀ S (blk b cs T :: rs) w' → Stab P ops (upd σ d (.pointer (some ⟨b, 0, none⟩))) w' pd' ∧ FG P r n ops Q (lv.set i true) pd' (upd σ d (.pointer (some ⟨b, 0, none⟩))) w') : FG P r n ops Q lv pd σ w :=
  FGval (C := fun v w' => ∃ b, v = .pointer (some ⟨b, 0, none⟩) ∧ Sep w₀ S (blk b cs T :: rs) w') hok i pd' ho hw
    ⟨.pointer (some ⟨w.heap.size, 0, none⟩), w.alloc (.cells cs.toArray T), fun _ _ _ _ => by simp [execOp, Instr.alloc, hz.run, newVar, newRow, hcs], _, rfl, H.alloc _⟩ hck hpd
    (fun v w' hv => by obtain ⟨b, rfl, hs⟩ := hv; exact h b w' hs)
end
section
variable {P : Program} {ρ : Operand → Value} {ty : TypeId} {w : World} {x y : Operand} {α : Type} {enc : α → List Value} {k : Nat} {l : List α} {A : Option Addr}
theorem Gives.loadW [hk : EncK enc k] {i f : Nat} {c : α} {v : Value} {T : TypeId} [OneCell P T] (hx : ρ x = adr A (i * k + f)) (hr : Rd w A enc k l) (hg : l[i]? = some c) (hv : (enc c)[f]? = some v) : Gives P ρ (.load T x) ty w v w := by
 obtain ⟨ad, rfl, h2⟩ := hr.cell hg hv
 exact Gives.loadC hx h2
theorem Gives.loadW0 [hk : EncK enc k] {i : Nat} {c : α} {T : TypeId} [Agg P T k] (hx : ρ x = adr A (i * k)) (hr : Rd w A enc k l) (hg : l[i]? = some c) : Gives P ρ (.load T x) ty w (.agg (enc c).toArray) w :=
 Gives.loadE0 (rs := []) hx (Sep.start0 w) hr hg
end
end Go.Mw
namespace Go.Proofs.YtolaedhdjcnijaaGreatDoor
open Go Go.Mw
theorem cells_one {α : Type} {enc : α → List Value} (h : ∀ x, (enc x).all Value.oneCell' = true) (l : List α) : ∀ u ∈ l.flatMap enc, u.oneCell' = true := fun u hu => by
 obtain ⟨x, _, hx⟩ := List.mem_flatMap.1 hu
 exact List.all_eq_true.1 (h x) u hx
end Go.Proofs.YtolaedhdjcnijaaGreatDoor
namespace Go.Mw
open Go
section
variable {α β : Type} {enc : α → List Value} {val : β → Value} {row : β → List α} {k e : Nat} {l : List β} {x : β} {w w₀ : World} {S : Nat → Prop} {rs : List HP} {put : HP → List HP}
end
end Go.Mw
