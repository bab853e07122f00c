/-
 The document's steps, walked: what may be, and what a step takes.
-/
import Derived.Test.YtmkaahkbhdlniaaGreatDoorKn12
set_option linter.unusedVariables false
set_option linter.unusedSimpArgs false
namespace Go.Proofs.YtmkaahkbhdlniaaGreatDoor
open Go Go.Mw Go.Lib
set_option maxRecDepth 4000
def takesD (kind : Int) : Nat := if 1 ≤ kind ∧ kind ≤ 6 then 0 else if kind = 10 ∨ kind = 15 ∨ kind = 16 ∨ kind = 18 then 1 else 2
theorem takes_may {x : StepM} (h : mayS x = true) : takesD x.kind = takesS x.kind := by
 have hk : 1 ≤ x.kind := by
  unfold mayS at h
  repeat' split at h
  all_goals first | omega | (have := of_decide_eq_true h; omega)
 unfold takesD takesS
 by_cases h7 : x.kind < 7
 ·rw [if_pos (by omega), if_pos h7]
 rw [if_neg (by omega), if_neg h7]
section
variable {w : World}
theorem takes_ok22 (k : Int) : Rets Tryz.prog 46 [I k] w fun v w' => v = I (takesD k) ∧ w = w' := by
 have H := Sep.start0 w
 refine rets1 Tryz.func46 rfl rfl rfl rfl ?_
 refine Sr (Am ?_)
 refine Qn (FW_seq (Sr (Mv ?_)))
 refine Qn (FW_block (FW_seq (Sr (Ve ?_))))
 refine Am ?_
 refine Qn (Cp rfl (fun hc5 => ?_) (fun hc5 => ?_))
 ·refine Sk (FW_cond_true (congrArg Value.bool (decide_eq_true hc5)) ?_)
  refine Sr (Am ?_)
  refine Qn (Rb (Qfn_ret (hR := ?_)))
  exact ⟨by unfold takesD; rw [if_pos (by omega)]; rfl, rfl⟩
 refine Sr (Ve ?_)
 refine Am ?_
 refine Qn (Cp rfl (fun hc10 => ?_) (fun hc10 => ?_))
 ·refine Sk (FW_cond_true (congrArg Value.bool (decide_eq_true hc10)) ?_)
  refine Sr (Am ?_)
  refine Qn (Rb (Qfn_ret (hR := ?_)))
  exact ⟨by unfold takesD; rw [if_pos (by omega)]; rfl, rfl⟩
 refine Sr (Ve ?_)
 refine Am ?_
 refine Qn (Cp rfl (fun hc15 => ?_) (fun hc15 => ?_))
 ·refine Sk (FW_cond_true (congrArg Value.bool (decide_eq_true hc15)) ?_)
  refine Sr (Am ?_)
  refine Qn (Rb (Qfn_ret (hR := ?_)))
  exact ⟨by unfold takesD; rw [if_pos (by omega)]; rfl, rfl⟩
 refine Sr (Ve ?_)
 refine Am ?_
 refine Qn (Cp rfl (fun hc20 => ?_) (fun hc20 => ?_))
 ·refine Sk (FW_cond_true (congrArg Value.bool (decide_eq_true hc20)) ?_)
  refine Sr (Am ?_)
  refine Qn (Rb (Qfn_ret (hR := ?_)))
  exact ⟨by unfold takesD; rw [if_pos (by omega)]; rfl, rfl⟩
 refine Sr (Ve ?_)
 refine Am ?_
 refine Qn (Cp rfl (fun hc25 => ?_) (fun hc25 => ?_))
 ·refine Sk (FW_cond_true (congrArg Value.bool (decide_eq_true hc25)) ?_)
  refine Sr (Am ?_)
  refine Qn (Rb (Qfn_ret (hR := ?_)))
  exact ⟨by unfold takesD; rw [if_pos (by omega)]; rfl, rfl⟩
 refine FW_region (Ve ?_)
 refine Am ?_
 refine Qn (Cp rfl (fun hc30 => ?_) (fun hc30 => ?_))
 ·refine Sr (Am ?_)
  refine Qn (Rb (Qfn_ret (hR := ?_)))
  exact ⟨by unfold takesD; rw [if_pos (by omega)]; rfl, rfl⟩
 refine FW_seq (Sr (Ve ?_))
 refine Am ?_
 refine Qn (Cp rfl (fun hc35 => ?_) (fun hc35 => ?_))
 ·refine Sk (FW_cond_true (congrArg Value.bool (decide_eq_true hc35)) ?_)
  refine Sr (Am ?_)
  refine Qn (Rb (Qfn_ret (hR := ?_)))
  exact ⟨by unfold takesD; rw [if_neg (by omega), if_pos (by omega)]; rfl, rfl⟩
 refine Sr (Ve ?_)
 refine Am ?_
 refine Qn (Cp rfl (fun hc40 => ?_) (fun hc40 => ?_))
 ·refine Sk (FW_cond_true (congrArg Value.bool (decide_eq_true hc40)) ?_)
  refine Sr (Am ?_)
  refine Qn (Rb (Qfn_ret (hR := ?_)))
  exact ⟨by unfold takesD; rw [if_neg (by omega), if_pos (by omega)]; rfl, rfl⟩
 refine Sr (Ve ?_)
 refine Am ?_
 refine Qn (Cp rfl (fun hc45 => ?_) (fun hc45 => ?_))
 ·refine Sk (FW_cond_true (congrArg Value.bool (decide_eq_true hc45)) ?_)
  refine Sr (Am ?_)
  refine Qn (Rb (Qfn_ret (hR := ?_)))
  exact ⟨by unfold takesD; rw [if_neg (by omega), if_pos (by omega)]; rfl, rfl⟩
 refine FW_region (Ve ?_)
 refine Am ?_
 refine Qn (Cp rfl (fun hc50 => ?_) (fun hc50 => ?_))
 ·refine Sr (Am ?_)
  refine Qn (Rb (Qfn_ret (hR := ?_)))
  exact ⟨by unfold takesD; rw [if_neg (by omega), if_pos (by omega)]; rfl, rfl⟩
 refine FW_skip (Qblk_normal (Qseq_normal (Sr (Am ?_))))
 refine Qn (FW_ret (Qfn_ret (hR := ?_)))
 exact ⟨by unfold takesD; rw [if_neg (by omega), if_neg (by omega)]; rfl, rfl⟩
theorem mayS_ok22 (x : StepM) : Rets Tryz.prog 47 [agg (stepCells x)] w fun v w' => v = .bool (mayS x) ∧ Kept noB w w' := by
 have H := Sep.start0 w
 refine rets1 Tryz.func47 rfl rfl rfl rfl ?_
 refine Sr (FL_box H (h := fun b1 w2 H2 k1 => ?_))
 refine Am ?_
 refine Qn (FW_seq (Sr (Vf ?_)))
 refine Ld H2 ?_
 refine Qn (FW_block (Sr (Ve ?_)))
 refine Am ?_
 refine Qn (Cp rfl (fun hc8 => ?_) (fun hc8 => ?_))
 ·refine Sr (Vf ?_)
  refine Ld H2 ?_
  refine Vv (Gives.eqlT rfl rfl) (Mv ?_)
  refine FL_splitP (t := 10) rfl (fun hs13 => ?_) (fun hs13 => ?_)
  ·refine On (Vf ?_)
   refine On (Ld H2 ?_)
   refine On (Vv (Gives.geq rfl rfl) (Pt ?_))
   refine Mv ?_
   refine FL_splitP (t := 15) rfl (fun hs19 => ?_) (fun hs19 => ?_)
   ·refine On (Vf ?_)
    refine On (Ld H2 ?_)
    refine On (Vv (Gives.leq rfl rfl) (Pt ?_))
    refine Am ?_
    refine Qn (Rb (Qfn_ret (hR := ?_)))
    exact ⟨boolE (by first | (unfold mayS; simp_all; done) | (simp_all; done) | (unfold mayS; simp_all; omega)), H2.kept⟩
   refine Of (Of (Of (Pf ?_)))
   refine Am ?_
   refine Qn (Rb (Qfn_ret (hR := ?_)))
   exact ⟨boolE (by first | (unfold mayS; simp_all; done) | (simp_all; done) | (unfold mayS; simp_all; omega)), H2.kept⟩
  refine Of (Of (Of (Pf ?_)))
  refine Mv ?_
  refine Of (Of (Of (Pf ?_)))
  refine Am ?_
  refine Qn (Rb (Qfn_ret (hR := ?_)))
  exact ⟨boolE (by first | (unfold mayS; simp_all; done) | (simp_all; done) | (unfold mayS; simp_all; omega)), H2.kept⟩
 refine Sr (Ve ?_)
 refine Am ?_
 refine Qn (Cp rfl (fun hc36 => ?_) (fun hc36 => ?_))
 ·refine Sr (Vf ?_)
  refine Ld H2 ?_
  refine Vv (Gives.eqlT rfl rfl) (Am ?_)
  refine Qn (Rb (Qfn_ret (hR := ?_)))
  exact ⟨boolE (by first | (unfold mayS; simp_all; done) | (simp_all; done) | (unfold mayS; simp_all; omega)), H2.kept⟩
 refine Sr (Ve ?_)
 refine Am ?_
 refine Qn (Cp rfl (fun hc44 => ?_) (fun hc44 => ?_))
 ·refine Sr (Vf ?_)
  refine Ld H2 ?_
  refine Vv (Gives.eqlT rfl rfl) (Mv ?_)
  refine FL_splitP (t := 30) rfl (fun hs49 => ?_) (fun hs49 => ?_)
  ·refine On (Vf ?_)
   refine On (Ld H2 ?_)
   refine On (Vv (Gives.geq rfl rfl) (Pt ?_))
   refine Mv ?_
   refine FL_splitP (t := 35) rfl (fun hs55 => ?_) (fun hs55 => ?_)
   ·refine On (Vf ?_)
    refine On (Ld H2 ?_)
    refine On (Vv (Gives.leq rfl rfl) (Pt ?_))
    refine Am ?_
    refine Qn (Rb (Qfn_ret (hR := ?_)))
    exact ⟨boolE (by first | (unfold mayS; simp_all; done) | (simp_all; done) | (unfold mayS; simp_all; omega)), H2.kept⟩
   refine Of (Of (Of (Pf ?_)))
   refine Am ?_
   refine Qn (Rb (Qfn_ret (hR := ?_)))
   exact ⟨boolE (by first | (unfold mayS; simp_all; done) | (simp_all; done) | (unfold mayS; simp_all; omega)), H2.kept⟩
  refine Of (Of (Of (Pf ?_)))
  refine Mv ?_
  refine Of (Of (Of (Pf ?_)))
  refine Am ?_
  refine Qn (Rb (Qfn_ret (hR := ?_)))
  exact ⟨boolE (by first | (unfold mayS; simp_all; done) | (simp_all; done) | (unfold mayS; simp_all; omega)), H2.kept⟩
 refine Sr (Ve ?_)
 refine Am ?_
 refine Qn (Cp rfl (fun hc72 => ?_) (fun hc72 => ?_))
 ·refine Sr (Vf ?_)
  refine Ld H2 ?_
  refine Ve ?_
  refine Mv ?_
  refine FL_splitP (t := 45) rfl (fun hs77 => ?_) (fun hs77 => ?_)
  ·refine On (Vf ?_)
   refine On (Ld H2 ?_)
   refine On (Vt ?_)
   refine On (Vv (Gives.leq rfl rfl) (Pt ?_))
   refine Mv ?_
   refine FL_splitP (t := 51) rfl (fun hs84 => ?_) (fun hs84 => ?_)
   ·refine On (Vf ?_)
    refine On (Ld H2 ?_)
    refine On (FL_callQ H2 (valid_ok4 x.s (by omega)) (h := fun w88 H88 _ => ?_))
    refine Pt ?_
    refine Am ?_
    refine Qn (Rb (Qfn_ret (hR := ?_)))
    exact ⟨boolE (by first | (unfold mayS; simp_all; done) | (simp_all; done) | (unfold mayS; simp_all; omega)), H88.kept⟩
   refine Of (Of (Of (Pf ?_)))
   refine Am ?_
   refine Qn (Rb (Qfn_ret (hR := ?_)))
   exact ⟨boolE (by first | (unfold mayS; simp_all; done) | (simp_all; done) | (unfold mayS; simp_all; omega)), H2.kept⟩
  refine Of (Of (Of (Of (Pf ?_))))
  refine Mv ?_
  refine Of (Of (Of (Pf ?_)))
  refine Am ?_
  refine Qn (Rb (Qfn_ret (hR := ?_)))
  exact ⟨boolE (by first | (unfold mayS; simp_all; done) | (simp_all; done) | (unfold mayS; simp_all; omega)), H2.kept⟩
 refine Sr (Ve ?_)
 refine Am ?_
 refine Qn (Cp rfl (fun hc102 => ?_) (fun hc102 => ?_))
 ·refine Sr (Vf ?_)
  refine Ld H2 ?_
  refine Ve ?_
  refine Mv ?_
  refine FL_splitP (t := 61) rfl (fun hs107 => ?_) (fun hs107 => ?_)
  ·refine On (Vf ?_)
   refine On (Ld H2 ?_)
   refine On (Vt ?_)
   refine On (Vv (Gives.leq rfl rfl) (Pt ?_))
   refine Am ?_
   refine Qn (Rb (Qfn_ret (hR := ?_)))
   exact ⟨boolE (by first | (unfold mayS; simp_all; done) | (simp_all; done) | (unfold mayS; simp_all; omega)), H2.kept⟩
  refine Of (Of (Of (Of (Pf ?_))))
  refine Am ?_
  refine Qn (Rb (Qfn_ret (hR := ?_)))
  exact ⟨boolE (by first | (unfold mayS; simp_all; done) | (simp_all; done) | (unfold mayS; simp_all; omega)), H2.kept⟩
 refine Sr (Ve ?_)
 refine Am ?_
 refine Qn (Cp rfl (fun hc120 => ?_) (fun hc120 => ?_))
 ·refine Sr (Vf ?_)
  refine Ld H2 ?_
  refine Vv (Gives.eqlT rfl rfl) (Mv ?_)
  refine FL_splitP (t := 72) rfl (fun hs125 => ?_) (fun hs125 => ?_)
  ·refine On (Vf ?_)
   refine On (Ld H2 ?_)
   refine On (Ve ?_)
   refine On (Mv ?_)
   refine FL_splitP (t := 76) rfl (fun hs130 => ?_) (fun hs130 => ?_)
   ·refine Of (Of (Of (Of (Ou (Ou (Ou (Of (On (Pt ?_)))))))))
    refine Pt ?_
    refine Am ?_
    refine Qn (Rb (Qfn_ret (hR := ?_)))
    exact ⟨boolE (by first | (unfold mayS; simp_all; done) | (simp_all; done) | (unfold mayS; simp_all; omega)), H2.kept⟩
   refine On (Vf ?_)
   refine On (Ld H2 ?_)
   refine On (Vv (Gives.geq rfl rfl) (On ?_))
   refine Mv ?_
   refine FL_splitP (t := 80) rfl (fun hs139 => ?_) (fun hs139 => ?_)
   ·refine On (Vf ?_)
    refine On (Ld H2 ?_)
    refine On (Vv (Gives.leq rfl rfl) (On ?_))
    refine Pt ?_
    refine On (Pf ?_)
    refine Pt ?_
    refine Am ?_
    refine Qn (Rb (Qfn_ret (hR := ?_)))
    exact ⟨boolE (by first | (unfold mayS; simp_all; done) | (simp_all; done) | (unfold mayS; simp_all; omega)), H2.kept⟩
   refine Of (Of (Of (On (Pf ?_))))
   refine On (Pf ?_)
   refine Pt ?_
   refine Am ?_
   refine Qn (Rb (Qfn_ret (hR := ?_)))
   exact ⟨boolE (by first | (unfold mayS; simp_all; done) | (simp_all; done) | (unfold mayS; simp_all; omega)), H2.kept⟩
  refine Of (Of (Of (Of (Ou (Ou (Ou (Ou (Ou (Ou (Ou (Ou (Of (Pf ?_)))))))))))))
  refine Am ?_
  refine Qn (Rb (Qfn_ret (hR := ?_)))
  exact ⟨boolE (by first | (unfold mayS; simp_all; done) | (simp_all; done) | (unfold mayS; simp_all; omega)), H2.kept⟩
 refine FW_skip (Qblk_normal (Qseq_normal (Sr (Vf ?_))))
 refine Ld H2 ?_
 refine Vv (Gives.geq rfl rfl) (Mv ?_)
 refine FL_splitP (t := 90) rfl (fun hs160 => ?_) (fun hs160 => ?_)
 ·refine On (Vf ?_)
  refine On (Ld H2 ?_)
  refine On (Vv (Gives.leq rfl rfl) (Pt ?_))
  refine Mv ?_
  refine FL_splitP (t := 95) rfl (fun hs166 => ?_) (fun hs166 => ?_)
  ·refine On (Vf ?_)
   refine On (Ld H2 ?_)
   refine On (Ve ?_)
   refine Pt ?_
   refine Mv ?_
   refine FL_splitP (t := 100) rfl (fun hs172 => ?_) (fun hs172 => ?_)
   ·refine On (Vf ?_)
    refine On (Ld H2 ?_)
    refine On (Vv (Gives.eqlT rfl rfl) (Pt ?_))
    refine Am ?_
    refine Qn (FW_ret (Qfn_ret (hR := ?_)))
    exact ⟨boolE (by first | (unfold mayS; simp_all; done) | (simp_all; done) | (unfold mayS; simp_all; omega)), H2.kept⟩
   refine Of (Of (Of (Pf ?_)))
   refine Am ?_
   refine Qn (FW_ret (Qfn_ret (hR := ?_)))
   exact ⟨boolE (by first | (unfold mayS; simp_all; done) | (simp_all; done) | (unfold mayS; simp_all; omega)), H2.kept⟩
  refine Of (Of (Of (Pf ?_)))
  refine Mv ?_
  refine Of (Of (Of (Pf ?_)))
  refine Am ?_
  refine Qn (FW_ret (Qfn_ret (hR := ?_)))
  exact ⟨boolE (by first | (unfold mayS; simp_all; done) | (simp_all; done) | (unfold mayS; simp_all; omega)), H2.kept⟩
 refine Of (Of (Of (Pf ?_)))
 refine Mv ?_
 refine Of (Of (Of (Pf ?_)))
 refine Mv ?_
 refine Of (Of (Of (Pf ?_)))
 refine Am ?_
 refine Qn (FW_ret (Qfn_ret (hR := ?_)))
 exact ⟨boolE (by first | (unfold mayS; simp_all; done) | (simp_all; done) | (unfold mayS; simp_all; omega)), H2.kept⟩
end
def colI (cols : List ColM) (n : Int) : Int := match findC cols n with | some i => i | none => -1
theorem find_none {cols : List ColM} {n : Int} (h : ∀ (j : Nat) a, cols[j]? = some a → a.id ≠ n) : findC cols n = none := by
 unfold findC
 rw [List.findIdx?_eq_none_iff]
 intro a ha
 obtain ⟨j, hj⟩ := List.getElem?_of_mem ha
 simpa using h j a hj
theorem find_some {cols : List ColM} {n : Int} {i : Nat} {a : ColM} (hi : cols[i]? = some a) (he : a.id = n) (h : ∀ (j : Nat) a, j < i → cols[j]? = some a → a.id ≠ n) : findC cols n = some i := by
 have hl := get_lt hi
 have hia : cols[i] = a := by rw [List.getElem?_eq_getElem hl] at hi; injection hi
 unfold findC
 rw [List.findIdx?_eq_some_iff_getElem]
 refine ⟨hl, by simp [hia, he], fun j hj => ?_⟩
 have := h j cols[j] hj (List.getElem?_eq_getElem (by omega))
 simpa using this
theorem colI_neg {cols : List ColM} {n : Int} (h : colI cols n < 0) : findC cols n = none := by
 unfold colI at h
 split at h
 ·omega
 assumption
theorem colI_some {cols : List ColM} {n : Int} (h : ¬ colI cols n < 0) : ∃ i, findC cols n = some i ∧ colI cols n = (i : Int) := by
 unfold colI at h ⊢
 cases e : findC cols n with
 | none => rw [e] at h; simp at h
 | some i => exact ⟨i, rfl, rfl⟩
theorem find_lt {cols : List ColM} {n : Int} {i : Nat} (h : findC cols n = some i) : i < cols.length := by
 unfold findC at h
 rw [List.findIdx?_eq_some_iff_getElem] at h
 exact h.1
section
variable {w : World}
theorem column_ok22 {cols : List ColM} {vc : Value} (n : Int) (hc : RowIn w vc colCells 7 cols) : Rets Tryz.prog 56 [vc, I n] w fun v w' => v = I (colI cols n) ∧ Kept noB w w' := by
  obtain ⟨A, m, rfl, ⟨hm, hm'⟩, hA⟩ := hc
  have H := Sep.start0 w
  refine rets2 Tryz.func56 rfl rfl rfl rfl ?_
  refine Sr (Am ?_)
  refine Qn (FW_seq (Sr (Am ?_)))
  refine Qn (FW_block (FW_loop' (fun i : Nat => [(0, .slice A cols.length m), (1, I n), (5, I i)]) (fun i w' => (i ≤ cols.length ∧ ∀ (j : Nat) a, j < i → cols[j]? = some a → a.id ≠ n) ∧ Sep w noB [] w') (fun i _ => cols.length - i) 0 ⟨rfl, rfl, rfl, trivial⟩ ⟨⟨Nat.zero_le _, fun j a hj => by omega⟩, H⟩ (fun i τ w4 hI => ?_)))
  obtain ⟨⟨hi, hst⟩, H4⟩ := hI
  try simp only [upds, like, upd_ds, und_ds]
  refine FW_seq (Sr (Mv ?_))
  refine Mv ?_
  refine Vs ?_
  refine Vl ?_
  refine Qn (Cp rfl (fun hc9 => ?_) (fun hc9 => ?_))
  · have hlt : i < cols.length := by omega
    obtain ⟨a, ha⟩ := get_some hlt
    refine Sk (FW_seq (FW_block (Sr (Mv ?_))))
    refine Mv ?_
    refine Vv (Gives.idxR rfl rfl (by assumption) (by omega)) (Vv (Gives.fieldR rfl (by assumption) (by omega)) ?_)
    refine Vv (Gives.loadE rfl H4 (by assumption) (by assumption) rfl) (Mv ?_)
    refine Ve ?_
    refine Qn (Cp rfl (fun hc18 => ?_) (fun hc18 => ?_))
    · have hfin : colI cols n = i := by
        unfold colI
        rw [find_some ha hc18 hst]
      refine Sr (Mv ?_)
      refine Am ?_
      refine Qn (Rb (Qround_ret (Qblk_ret (Qseq_ret (Qfn_ret (hR := ?_))))))
      exact ⟨by rw [hfin]; rfl, H4.kept⟩
    have hst' : ∀ (j : Nat) a, j < i + 1 → cols[j]? = some a → a.id ≠ n := by
      intro j b hj hb
      rcases Nat.lt_or_ge j i with h | h
      · exact hst j b h hb
      have : j = i := by omega
      subst this
      rw [ha] at hb; injection hb with hb; subst hb; exact hc18
    refine FW_skip (Qblk_normal (Qseq_normal (FW_region (Mv ?_))))
    refine Vv (Gives.addI rfl rfl rfl (by omega)) (Am ?_)
    refine FL_nil ?_
    exact Qround_normal (i + 1) ⟨rfl, rfl, rfl, trivial⟩ ⟨⟨by omega, hst'⟩, H4⟩ (by omega)
  have hfin : colI cols n = -1 := by
    unfold colI
    rw [find_none fun j a hj => hst j a (by have := get_lt hj; omega) hj]
  refine FW_exit (Qseq_exit (Qround_exit (Qblk_exit (Qseq_normal (Sr (Am ?_))))))
  refine Qn (FW_ret (Qfn_ret (hR := ?_)))
  exact ⟨by rw [hfin]; rfl, H4.kept⟩
theorem truth_ok22 (b : Bool) : Rets Tryz.prog 100 [.bool b] w fun v w' => v = agg (cellCells (flagC b)) ∧ Kept noB w w' := by
 have H := Sep.start0 w
 refine retsC1 Tryz.func100 rfl rfl rfl rfl ?_
 refine Sr (FL_alloc H (h := fun b1 w2 H2 k1 => ?_))
 refine Qn (FW_seq (Sr (Mv ?_)))
 refine Qn (Cd rfl (fun hc4 => ?_) (fun hc4 => ?_))
 ·refine Sr (Vv (Gives.build (out := cellCells (flagC true)) (Fills.one rfl rfl rfl (by decide) rfl Fills.nil)) (FL_storeAll H2 (h := fun w7 H7 => ?_)))
  refine Qn (Rs (QfnC_ret (h := ?_)))
  refine ⟨_, resC1 H7, ?_⟩
  exact ⟨by simp_all [agg]; rfl, H7.kept⟩
 refine Sk (Sr (Vv (Gives.build (out := cellCells (flagC false)) Fills.nil) (FL_storeAll H2 (h := fun w11 H11 => ?_))))
 refine Qn (FW_ret (QfnC_ret (h := ?_)))
 refine ⟨_, resC1 H11, ?_⟩
 exact ⟨by simp_all [agg]; rfl, H11.kept⟩
end
attribute [local irreducible] mayT
section
variable {w : World}
theorem leaf_ok22 {cols : List ColM} {vc : Value} (x : StepM) (hc : RowIn w vc colCells 7 cols) : Rets Tryz.prog 48 [vc, agg (stepCells x)] w fun v w' => v = .tuple #[agg (typeCells ((leafT cols x).getD type0)), .bool (leafT cols x).isSome] ∧ Kept noB w w' := by
 have hcc := hc
 obtain ⟨A, m, rfl, ⟨hm, hm'⟩, hA⟩ := hc
 have H := Sep.start0 w
 obtain ⟨res, hres⟩ : ∃ res, res = leafT cols x := ⟨_, rfl⟩
 rw [← hres]
 unfold leafT at hres
 refine retsC2 Tryz.func48 rfl rfl rfl rfl ?_
 refine Sr (FL_box H (h := fun b1 w2 H2 k1 => ?_))
 refine FL_alloc H2 (h := fun b3 w4 H4 k3 => ?_)
 refine Am ?_
 refine Qn (FW_seq (Sr (Vf ?_)))
 refine Ld H4 ?_
 refine Qn (FW_block (Sr (Ve ?_)))
 refine Am ?_
 refine Qn (Cp rfl (fun hc10 => ?_) (fun hc10 => ?_))
 ·rw [if_pos hc10] at hres
  refine Sr (Mv ?_)
  refine Vf ?_
  refine Ld H4 ?_
  refine FL_callQ H4 (column_ok22 x.n (hcc.keep H4.kept)) (h := fun w16 H16 k15 => ?_)
  refine Am ?_
  refine Qn (FW_seq (Sr (Mv ?_)))
  refine Vl ?_
  refine Mv ?_
  refine FL_splitP (t := 18) rfl (fun hs21 => ?_) (fun hs21 => ?_)
  ·have hfin : res = none := by rw [hres, colI_neg hs21]
   refine Of (Of (Of (Of (Of (Of (Of (Pt ?_)))))))
   refine Qn (FW_cond_true rfl ?_)
   refine Sr (Vv (Gives.build (out := typeCells type0) Fills.nil) (FL_storeAll H16 (h := fun w26 H26 => ?_)))
   refine Am ?_
   refine Qn (Rs (Qblk_ret (Qseq_ret (QfnC_ret (h := ?_)))))
   refine ⟨_, resC2 H26, ?_⟩
   exact ⟨by first | (rw [hfin]; rfl) | (rw [hres]; rfl), H26.kept⟩
  obtain ⟨i, hf, hI⟩ := colI_some hs21
  have hlt := find_lt hf
  obtain ⟨a, ha⟩ := get_some hlt
  have hgd : cols.getD i ⟨0, [], type0, cell0⟩ = a := by rw [List.getD_eq_getElem?_getD, ha]; rfl
  rw [hf] at hres
  dsimp only at hres
  rw [hgd] at hres
  rw [hI]
  refine On (Mv ?_)
  refine On (Mv ?_)
  refine On (Vv (Gives.idxR rfl rfl (by assumption) (by omega)) (On ?_))
  refine Vv (Gives.fieldR rfl (by assumption) (by omega)) (On ?_)
  refine Vv (Gives.loadEN (us := typeCells _) rfl H16 (by assumption) (by assumption) rfl rfl) (On ?_)
  refine FL_callQ H16 (may_ok9 _) (h := fun w36 H36 k35 => ?_)
  refine On (Vv (Gives.not rfl) (Pf ?_))
  refine Qn (Cd rfl (fun hc39 => ?_) (fun hc39 => ?_))
  ·have hfin : res = none := by rw [hres, if_pos (by simpa using hc39)]
   refine Sr (Vv (Gives.build (out := typeCells type0) Fills.nil) (FL_storeAll H36 (h := fun w43 H43 => ?_)))
   refine Am ?_
   refine Qn (Rs (Qblk_ret (Qseq_ret (QfnC_ret (h := ?_)))))
   refine ⟨_, resC2 H43, ?_⟩
   exact ⟨by first | (rw [hfin]; rfl) | (rw [hres]; rfl), H43.kept⟩
  rw [if_neg (by simpa using hc39)] at hres
  refine Sk (Sr (Mv ?_))
  refine Mv ?_
  refine Vv (Gives.idxR rfl rfl (by assumption) (by omega)) (Vv (Gives.fieldR rfl (by assumption) (by omega)) ?_)
  refine Vv (Gives.loadEN (us := typeCells _) rfl H36 (by assumption) (by assumption) rfl rfl) (FL_alloc H36 (h := fun b52 w53 H53 k52 => ?_))
  refine FL_storeAll H53 (h := fun w55 H55 => ?_)
  refine Qn (FW_seq (Sr (Vf ?_)))
  refine Ld H55 ?_
  refine Ve ?_
  refine Qn (Cp rfl (fun hc59 => ?_) (fun hc59 => ?_))
  ·rw [if_pos hc59] at hres
   obtain ⟨t, ht⟩ : ∃ t, t = TypeM.mk 3 a.type.null := ⟨_, rfl⟩
   rw [← ht] at hres
   refine FW_region (Vf ?_)
   refine FL_store H55 (cs' := typeCells t) (hs := by rw [ht]; rfl) (h := fun w63 H63 => ?_)
   refine Nx (FL_loadAll H63 (h := ?_))
   refine FL_storeAll H63 (h := fun w66 H66 => ?_)
   refine Am ?_
   refine Qn (Rb (QfnC_ret (h := ?_)))
   refine ⟨_, resC2 H66, ?_⟩
   exact ⟨by first | (rw [hfin]; rfl) | (rw [hres]; rfl), H66.kept⟩
  rw [if_neg hc59] at hres
  obtain ⟨t, ht⟩ : ∃ t, t = a.type := ⟨_, rfl⟩
  rw [← ht] at hres H55
  refine Sk (Sr (FL_loadAll H55 (h := ?_)))
  refine FL_storeAll H55 (h := fun w72 H72 => ?_)
  refine Am ?_
  refine Qn (Rb (QfnC_ret (h := ?_)))
  refine ⟨_, resC2 H72, ?_⟩
  exact ⟨by first | (rw [hfin]; rfl) | (rw [hres]; rfl), H72.kept⟩
 rw [if_neg hc10] at hres
 refine Sr (Ve ?_)
 refine Am ?_
 refine Qn (Cp rfl (fun hc78 => ?_) (fun hc78 => ?_))
 ·rw [if_pos hc78] at hres
  refine Sr (Vv (Gives.build (out := typeCells ⟨3, false⟩) (Fills.one rfl rfl rfl (by simp) rfl Fills.nil)) (FL_storeAll H4 (h := fun w82 H82 => ?_)))
  refine Am ?_
  refine Qn (Rb (QfnC_ret (h := ?_)))
  refine ⟨_, resC2 H82, ?_⟩
  exact ⟨by first | (rw [hfin]; rfl) | (rw [hres]; rfl), H82.kept⟩
 rw [if_neg hc78] at hres
 refine Sr (Ve ?_)
 refine Am ?_
 refine Qn (Cp rfl (fun hc88 => ?_) (fun hc88 => ?_))
 ·rw [if_pos hc88] at hres
  refine Sr (Vv (Gives.build (out := typeCells ⟨1, false⟩) (Fills.one rfl rfl rfl (by simp) rfl Fills.nil)) (FL_storeAll H4 (h := fun w92 H92 => ?_)))
  refine Am ?_
  refine Qn (Rb (QfnC_ret (h := ?_)))
  refine ⟨_, resC2 H92, ?_⟩
  exact ⟨by first | (rw [hfin]; rfl) | (rw [hres]; rfl), H92.kept⟩
 rw [if_neg hc88] at hres
 refine Sr (Ve ?_)
 refine Am ?_
 refine Qn (Cp rfl (fun hc98 => ?_) (fun hc98 => ?_))
 ·rw [if_pos hc98] at hres
  refine Sr (Vv (Gives.build (out := typeCells ⟨4, false⟩) (Fills.one rfl rfl rfl (by simp) rfl Fills.nil)) (FL_storeAll H4 (h := fun w102 H102 => ?_)))
  refine Am ?_
  refine Qn (Rb (QfnC_ret (h := ?_)))
  refine ⟨_, resC2 H102, ?_⟩
  exact ⟨by first | (rw [hfin]; rfl) | (rw [hres]; rfl), H102.kept⟩
 rw [if_neg hc98] at hres
 refine Sr (Ve ?_)
 refine Am ?_
 refine Qn (Cp rfl (fun hc108 => ?_) (fun hc108 => ?_))
 ·rw [if_pos hc108] at hres
  refine Sr (Vv (Gives.build (out := typeCells ⟨5, false⟩) (Fills.one rfl rfl rfl (by simp) rfl Fills.nil)) (FL_storeAll H4 (h := fun w112 H112 => ?_)))
  refine Am ?_
  refine Qn (Rb (QfnC_ret (h := ?_)))
  refine ⟨_, resC2 H112, ?_⟩
  exact ⟨by first | (rw [hfin]; rfl) | (rw [hres]; rfl), H112.kept⟩
 rw [if_neg hc108] at hres
 refine FW_skip (Qblk_normal (Qseq_normal (Sr (Vf ?_))))
 refine Ld H4 ?_
 refine Vv (Gives.build (out := typeCells ⟨x.n, true⟩) (Fills.one rfl rfl rfl (by simp) rfl (Fills.one rfl rfl rfl (by simp) rfl Fills.nil))) (FL_storeAll H4 (h := fun w120 H120 => ?_))
 refine Am ?_
 refine Qn (FW_ret (QfnC_ret (h := ?_)))
 refine ⟨_, resC2 H120, ?_⟩
 exact ⟨by first | (rw [hfin]; rfl) | (rw [hres]; rfl), H120.kept⟩
end
theorem made_out {res : Option TypeM} {t : TypeM} {ok : Bool} (h : res = if ok = true then some t else none) : ∃ t', Value.tuple #[agg (typeCells t), .bool ok] = .tuple #[agg (typeCells t'), .bool res.isSome] ∧ ∀ x, res = some x → t' = x := by
 subst h
 refine ⟨t, by cases ok <;> rfl, fun x hx => ?_⟩
 cases ok
 ·cases hx
 injection hx
section
variable {w : World}
theorem sum_ok22 (a b : Int) (ha : fits a) (hb : fits b) : Rets Tryz.prog 101 [I a, I b] w fun v w' => v = .tuple #[I (if fitsI (a + b) = true then a + b else 0), .bool (fitsI (a + b))] ∧ w = w' := by
 have H := Sep.start0 w
 obtain ⟨ha1, ha2⟩ := ha
 obtain ⟨hb1, hb2⟩ := hb
 refine rets2 Tryz.func101 rfl rfl rfl rfl ?_
 refine Sr (Am ?_)
 refine Am ?_
 refine Qn (FW_seq (Sr (Mv ?_)))
 refine Vg ?_
 refine Mv ?_
 refine FL_splitP (t := 8) rfl (fun hs6 => ?_) (fun hs6 => ?_)
 ·refine On (Mv ?_)
  refine On (Mv ?_)
  refine On (Vv (Gives.subI (c := 9223372036854775807 - b) rfl rfl rfl (by omega)) (On ?_))
  refine Vg ?_
  refine Pt ?_
  refine Mv ?_
  refine FL_splitP (t := 14) rfl (fun hs13 => ?_) (fun hs13 => ?_)
  ·refine Of (Of (Of (Ou (Ou (Ou (Ou (Of (Pt ?_))))))))
   refine Qn (FW_cond_true rfl ?_)
   refine Sr (Am ?_)
   refine Am ?_
   refine Qn (Rs (Qfn_ret (hR := ?_)))
   have hf : fitsI (a + b) = false := decide_eq_false (by omega)
   exact ⟨by rw [hf]; rfl, rfl⟩
  refine On (Mv ?_)
  refine On (Vl ?_)
  refine On (Mv ?_)
  refine FL_splitP (t := 17) rfl (fun hs21 => ?_) (fun hs21 => ?_)
  ·refine On (Mv ?_)
   refine On (Mv ?_)
   refine On (Vv (Gives.subI (c := -9223372036854775808 - b) rfl rfl rfl (by omega)) (On ?_))
   refine Vl ?_
   refine On (Pt ?_)
   refine Pf ?_
   refine Qn (Cp rfl (fun hc28 => ?_) (fun hc28 => ?_))
   ·have hf : fitsI (a + b) = false := decide_eq_false (by omega)
    refine Sr (Am ?_)
    refine Am ?_
    refine Qn (Rs (Qfn_ret (hR := ?_)))
    have hf : fitsI (a + b) = false := decide_eq_false (by omega)
    exact ⟨by rw [hf]; rfl, rfl⟩
   have hf : fitsI (a + b) = true := decide_eq_true (by omega)
   refine Sk (Sr (Mv ?_))
   refine Mv ?_
   have hf : fitsI (a + b) = true := decide_eq_true (by omega)
   refine Vv (Gives.addI (c := a + b) rfl rfl rfl (by omega)) (Am ?_)
   refine Am ?_
   refine Qn (FW_ret (Qfn_ret (hR := ?_)))
   exact ⟨by rw [hf]; rfl, rfl⟩
  refine Of (Of (Of (Of (On (Pf ?_)))))
  refine Pf ?_
  refine Qn (FW_cond_false rfl ?_)
  refine Sk (Sr (Mv ?_))
  refine Mv ?_
  have hf : fitsI (a + b) = true := decide_eq_true (by omega)
  refine Vv (Gives.addI (c := a + b) rfl rfl rfl (by omega)) (Am ?_)
  refine Am ?_
  refine Qn (FW_ret (Qfn_ret (hR := ?_)))
  exact ⟨by rw [hf]; rfl, rfl⟩
 refine Of (Of (Of (Of (Pf ?_))))
 refine Mv ?_
 refine On (Mv ?_)
 refine On (Vl ?_)
 refine On (Mv ?_)
 refine FL_splitP (t := 17) rfl (fun hs53 => ?_) (fun hs53 => ?_)
 ·refine On (Mv ?_)
  refine On (Mv ?_)
  refine On (Vv (Gives.subI (c := -9223372036854775808 - b) rfl rfl rfl (by omega)) (On ?_))
  refine Vl ?_
  refine On (Pt ?_)
  refine Pf ?_
  refine Qn (Cp rfl (fun hc60 => ?_) (fun hc60 => ?_))
  ·have hf : fitsI (a + b) = false := decide_eq_false (by omega)
   refine Sr (Am ?_)
   refine Am ?_
   refine Qn (Rs (Qfn_ret (hR := ?_)))
   have hf : fitsI (a + b) = false := decide_eq_false (by omega)
   exact ⟨by rw [hf]; rfl, rfl⟩
  have hf : fitsI (a + b) = true := decide_eq_true (by omega)
  refine Sk (Sr (Mv ?_))
  refine Mv ?_
  have hf : fitsI (a + b) = true := decide_eq_true (by omega)
  refine Vv (Gives.addI (c := a + b) rfl rfl rfl (by omega)) (Am ?_)
  refine Am ?_
  refine Qn (FW_ret (Qfn_ret (hR := ?_)))
  exact ⟨by rw [hf]; rfl, rfl⟩
 refine Of (Of (Of (Of (On (Pf ?_)))))
 refine Pf ?_
 refine Qn (FW_cond_false rfl ?_)
 refine Sk (Sr (Mv ?_))
 refine Mv ?_
 have hf : fitsI (a + b) = true := decide_eq_true (by omega)
 refine Vv (Gives.addI (c := a + b) rfl rfl rfl (by omega)) (Am ?_)
 refine Am ?_
 refine Qn (FW_ret (Qfn_ret (hR := ?_)))
 exact ⟨by rw [hf]; rfl, rfl⟩
theorem made_ok22 (k : Int) (a b : TypeM) : Rets Tryz.prog 49 [I k, agg (typeCells a), agg (typeCells b)] w fun v w' => (∃ t, v = .tuple #[agg (typeCells t), .bool (madeT k a b).isSome] ∧ ∀ x, madeT k a b = some x → t = x) ∧ Kept noB w w' := by
 have H := Sep.start0 w
 obtain ⟨res, hres⟩ : ∃ res, res = madeT k a b := ⟨_, rfl⟩
 rw [← hres]
 unfold madeT at hres
 refine retsC3 Tryz.func49 rfl rfl rfl rfl ?_
 refine Sr (FL_box H (h := fun b1 w2 H2 k1 => ?_))
 refine FL_box H2 (h := fun b3 w4 H4 k3 => ?_)
 refine FL_alloc H4 (h := fun b5 w6 H6 k5 => ?_)
 refine Am ?_
 refine Qn (FW_cut (fun z : Bool => [(0, I k), (4, .pointer (some ⟨b1, 0, none⟩)), (5, .pointer (some ⟨b3, 0, none⟩)), (6, .pointer (some ⟨b5, 0, none⟩)), (7, .bool false), (8, .bool z)]) (fun z w' => z = (a.null || b.null) ∧ Sep w noB [blk b5 (typeCells type0) 29, blk b3 (typeCells b) 29, blk b1 (typeCells a) 29] w') ?_ ?_)
 ·refine FW_region (Vf ?_)
  refine Ld H6 ?_
  refine Mv ?_
  refine FL_split (t := 13) rfl (fun hs12 => ?_) (fun hs12 => ?_)
  ·refine Of (Of (Pt ?_))
   refine Am ?_
   refine FL_nil ?_
   exact Qcut_normal _ ⟨rfl, rfl, rfl, rfl, rfl, rfl, trivial⟩ ⟨by simp [*], H6⟩
  refine On (Vf ?_)
  refine On (Ld H6 ?_)
  refine Pf ?_
  refine Am ?_
  refine FL_nil ?_
  exact Qcut_normal _ ⟨rfl, rfl, rfl, rfl, rfl, rfl, trivial⟩ ⟨by simp [*], H6⟩
 rintro nn τ w22 ⟨hnn, H22⟩
 simp only [upds, like, upd_ds, und_ds]
 refine FW_cut (fun z : Bool => [(0, I k), (4, .pointer (some ⟨b1, 0, none⟩)), (5, .pointer (some ⟨b3, 0, none⟩)), (6, .pointer (some ⟨b5, 0, none⟩)), (7, .bool false), (8, .bool nn), (9, .bool z)]) (fun z w' => z = decide (a.kind = 3 ∧ b.kind = 3) ∧ Sep w noB [blk b5 (typeCells type0) 29, blk b3 (typeCells b) 29, blk b1 (typeCells a) 29] w') ?_ ?_
 ·refine FW_region (Vf ?_)
  refine Ld H22 ?_
  refine Ve ?_
  refine Mv ?_
  refine FL_splitP (t := 20) rfl (fun hs28 => ?_) (fun hs28 => ?_)
  ·refine On (Vf ?_)
   refine On (Ld H22 ?_)
   refine On (Ve ?_)
   refine Pt ?_
   refine Am ?_
   refine FL_nil ?_
   exact Qcut_normal _ ⟨rfl, rfl, rfl, rfl, rfl, rfl, rfl, trivial⟩ ⟨by simp [*], H22⟩
  refine Of (Of (Of (Pf ?_)))
  refine Am ?_
  refine FL_nil ?_
  exact Qcut_normal _ ⟨rfl, rfl, rfl, rfl, rfl, rfl, rfl, trivial⟩ ⟨by simp [*], H22⟩
 rintro n3 τ w39 ⟨hn3, H39⟩
 simp only [upds, like, upd_ds]
 refine FW_cut (fun z : Bool => [(0, I k), (4, .pointer (some ⟨b1, 0, none⟩)), (5, .pointer (some ⟨b3, 0, none⟩)), (6, .pointer (some ⟨b5, 0, none⟩)), (7, .bool false), (8, .bool nn), (9, .bool n3), (10, .bool z)]) (fun z w' => z = decide (a.kind = 1 ∧ b.kind = 1) ∧ Sep w noB [blk b5 (typeCells type0) 29, blk b3 (typeCells b) 29, blk b1 (typeCells a) 29] w') ?_ ?_
 ·refine FW_region (Vf ?_)
  refine Ld H39 ?_
  refine Ve ?_
  refine Mv ?_
  refine FL_splitP (t := 28) rfl (fun hs45 => ?_) (fun hs45 => ?_)
  ·refine On (Vf ?_)
   refine On (Ld H39 ?_)
   refine On (Ve ?_)
   refine Pt ?_
   refine Am ?_
   refine FL_nil ?_
   exact Qcut_normal _ ⟨rfl, rfl, rfl, rfl, rfl, rfl, rfl, rfl, trivial⟩ ⟨by simp [*], H39⟩
  refine Of (Of (Of (Pf ?_)))
  refine Am ?_
  refine FL_nil ?_
  exact Qcut_normal _ ⟨rfl, rfl, rfl, rfl, rfl, rfl, rfl, rfl, trivial⟩ ⟨by simp [*], H39⟩
 rintro n1 τ w56 ⟨hn1, H56⟩
 simp only [upds, like, upd_ds]
 refine FW_seq (Sr (Mv ?_))
 refine Qn (FW_block (FW_seq (Sr (Ve ?_))))
 refine Am ?_
 refine Qn (Cp rfl (fun hc60 => ?_) (fun hc60 => ?_))
 ·refine Sk (FW_cond_true (congrArg Value.bool (decide_eq_true hc60)) ?_)
  refine Sr (Mv ?_)
  refine Vv (Gives.build (out := typeCells ⟨3, nn⟩) (Fills.one rfl rfl rfl (by simp) rfl (Fills.one rfl rfl rfl (by simp) rfl Fills.nil))) (Mv ?_)
  refine FL_storeAll H56 (h := fun w65 H65 => ?_)
  refine Am ?_
  refine Qn (Rb (QfnC_ret (h := ?_)))
  exact ⟨_, resC2 H65, made_out (t := ⟨3, nn⟩) (ok := n3) (by rw [hres, if_pos (by omega), hnn, hn3]; simp only [decide_eq_true_eq]), H65.kept⟩
 refine Sr (Ve ?_)
 refine Am ?_
 refine Qn (Cp rfl (fun hc70 => ?_) (fun hc70 => ?_))
 ·refine Sk (FW_cond_true (congrArg Value.bool (decide_eq_true hc70)) ?_)
  refine Sr (Mv ?_)
  refine Vv (Gives.build (out := typeCells ⟨3, nn⟩) (Fills.one rfl rfl rfl (by simp) rfl (Fills.one rfl rfl rfl (by simp) rfl Fills.nil))) (Mv ?_)
  refine FL_storeAll H56 (h := fun w75 H75 => ?_)
  refine Am ?_
  refine Qn (Rb (QfnC_ret (h := ?_)))
  exact ⟨_, resC2 H75, made_out (t := ⟨3, nn⟩) (ok := n3) (by rw [hres, if_pos (by omega), hnn, hn3]; simp only [decide_eq_true_eq]), H75.kept⟩
 refine Sr (Ve ?_)
 refine Am ?_
 refine Qn (Cp rfl (fun hc80 => ?_) (fun hc80 => ?_))
 ·refine Sk (FW_cond_true (congrArg Value.bool (decide_eq_true hc80)) ?_)
  refine Sr (Mv ?_)
  refine Vv (Gives.build (out := typeCells ⟨3, nn⟩) (Fills.one rfl rfl rfl (by simp) rfl (Fills.one rfl rfl rfl (by simp) rfl Fills.nil))) (Mv ?_)
  refine FL_storeAll H56 (h := fun w85 H85 => ?_)
  refine Am ?_
  refine Qn (Rb (QfnC_ret (h := ?_)))
  exact ⟨_, resC2 H85, made_out (t := ⟨3, nn⟩) (ok := n3) (by rw [hres, if_pos (by omega), hnn, hn3]; simp only [decide_eq_true_eq]), H85.kept⟩
 refine FW_region (Ve ?_)
 refine Am ?_
 refine Qn (Cp rfl (fun hc90 => ?_) (fun hc90 => ?_))
 ·refine Sr (Mv ?_)
  refine Vv (Gives.build (out := typeCells ⟨3, nn⟩) (Fills.one rfl rfl rfl (by simp) rfl (Fills.one rfl rfl rfl (by simp) rfl Fills.nil))) (Mv ?_)
  refine FL_storeAll H56 (h := fun w95 H95 => ?_)
  refine Am ?_
  refine Qn (Rb (QfnC_ret (h := ?_)))
  exact ⟨_, resC2 H95, made_out (t := ⟨3, nn⟩) (ok := n3) (by rw [hres, if_pos (by omega), hnn, hn3]; simp only [decide_eq_true_eq]), H95.kept⟩
 refine FW_seq (Sr (Ve ?_))
 refine Am ?_
 refine Qn (Cp rfl (fun hc100 => ?_) (fun hc100 => ?_))
 ·refine Sk (FW_cond_true (congrArg Value.bool (decide_eq_true hc100)) ?_)
  refine FW_seq (FW_drawS rfl H56 (h := fun hok101 w103 H103 => ?_))
  refine Gm hok101 0 ?_
  refine Gp hok101 1 rfl rfl (fun _ => (Gives.build (out := typeCells ⟨1, nn⟩) (Fills.one rfl rfl rfl (by simp) rfl (Fills.one rfl rfl rfl (by simp) rfl Fills.nil)))) (Gp hok101 2 rfl rfl (fun _ => (Gives.field0 rfl)) ?_)
  refine FGload hok101 3 H103 (h := ?_)
  refine Gp hok101 4 rfl rfl (fun _ => (Gives.field0 rfl)) (FGload hok101 5 H103 (h := ?_))
  refine Gp hok101 6 rfl rfl (fun _ => (Gives.eql rfl rfl)) (FGstoreAll hok101 7 [(6, true), (5, false), (4, true), (3, false), (2, true)] H103 (h := fun w111 H111 => ⟨Stab_pure (Stab_load H111 (h := Stab_pure (Stab_load H111 (h := Stab_pure (Stab_nil))))), ?_⟩))
  refine Gp hok101 8 rfl rfl (fun _ => Gives.assign rfl) (FG_end hok101 (by kernel_rfl) ?_)
  refine Qseq_normal (Rb (QfnC_ret (h := ?_)))
  exact ⟨_, resC2 H111, made_out (t := ⟨1, nn⟩) (ok := decide (a.kind = b.kind)) (by rw [hres, if_neg (by omega), if_pos (by omega), hnn]; simp only [decide_eq_true_eq]), H111.kept⟩
 refine FW_region (Ve ?_)
 refine Am ?_
 refine Qn (Cp rfl (fun hc116 => ?_) (fun hc116 => ?_))
 ·refine FW_seq (FW_drawS rfl H56 (h := fun hok117 w119 H119 => ?_))
  refine Gm hok117 0 ?_
  refine Gp hok117 1 rfl rfl (fun _ => (Gives.build (out := typeCells ⟨1, nn⟩) (Fills.one rfl rfl rfl (by simp) rfl (Fills.one rfl rfl rfl (by simp) rfl Fills.nil)))) (Gp hok117 2 rfl rfl (fun _ => (Gives.field0 rfl)) ?_)
  refine FGload hok117 3 H119 (h := ?_)
  refine Gp hok117 4 rfl rfl (fun _ => (Gives.field0 rfl)) (FGload hok117 5 H119 (h := ?_))
  refine Gp hok117 6 rfl rfl (fun _ => (Gives.eql rfl rfl)) (FGstoreAll hok117 7 [(6, true), (5, false), (4, true), (3, false), (2, true)] H119 (h := fun w127 H127 => ⟨Stab_pure (Stab_load H127 (h := Stab_pure (Stab_load H127 (h := Stab_pure (Stab_nil))))), ?_⟩))
  refine Gp hok117 8 rfl rfl (fun _ => Gives.assign rfl) (FG_end hok117 (by kernel_rfl) ?_)
  refine Qseq_normal (Rb (QfnC_ret (h := ?_)))
  exact ⟨_, resC2 H127, made_out (t := ⟨1, nn⟩) (ok := decide (a.kind = b.kind)) (by rw [hres, if_neg (by omega), if_pos (by omega), hnn]; simp only [decide_eq_true_eq]), H127.kept⟩
 refine FW_seq (Sr (Ve ?_))
 refine Am ?_
 refine Qn (Cp rfl (fun hc132 => ?_) (fun hc132 => ?_))
 ·refine Sk (FW_cond_true (congrArg Value.bool (decide_eq_true hc132)) ?_)
  refine Sr (Mv ?_)
  refine Vv (Gives.build (out := typeCells ⟨1, nn⟩) (Fills.one rfl rfl rfl (by simp) rfl (Fills.one rfl rfl rfl (by simp) rfl Fills.nil))) (Mv ?_)
  refine FL_storeAll H56 (h := fun w137 H137 => ?_)
  refine Am ?_
  refine Qn (Rb (QfnC_ret (h := ?_)))
  exact ⟨_, resC2 H137, made_out (t := ⟨1, nn⟩) (ok := n1) (by rw [hres, if_neg (by omega), if_neg (by omega), if_pos (by omega), hnn, hn1]; simp only [decide_eq_true_eq]), H137.kept⟩
 refine Sr (Ve ?_)
 refine Am ?_
 refine Qn (Cp rfl (fun hc142 => ?_) (fun hc142 => ?_))
 ·refine Sk (FW_cond_true (congrArg Value.bool (decide_eq_true hc142)) ?_)
  refine Sr (Mv ?_)
  refine Vv (Gives.build (out := typeCells ⟨1, nn⟩) (Fills.one rfl rfl rfl (by simp) rfl (Fills.one rfl rfl rfl (by simp) rfl Fills.nil))) (Mv ?_)
  refine FL_storeAll H56 (h := fun w147 H147 => ?_)
  refine Am ?_
  refine Qn (Rb (QfnC_ret (h := ?_)))
  exact ⟨_, resC2 H147, made_out (t := ⟨1, nn⟩) (ok := n1) (by rw [hres, if_neg (by omega), if_neg (by omega), if_pos (by omega), hnn, hn1]; simp only [decide_eq_true_eq]), H147.kept⟩
 refine FW_region (Ve ?_)
 refine Am ?_
 refine Qn (Cp rfl (fun hc152 => ?_) (fun hc152 => ?_))
 ·refine Sr (Mv ?_)
  refine Vv (Gives.build (out := typeCells ⟨1, nn⟩) (Fills.one rfl rfl rfl (by simp) rfl (Fills.one rfl rfl rfl (by simp) rfl Fills.nil))) (Mv ?_)
  refine FL_storeAll H56 (h := fun w157 H157 => ?_)
  refine Am ?_
  refine Qn (Rb (QfnC_ret (h := ?_)))
  exact ⟨_, resC2 H157, made_out (t := ⟨1, nn⟩) (ok := n1) (by rw [hres, if_neg (by omega), if_neg (by omega), if_pos (by omega), hnn, hn1]; simp only [decide_eq_true_eq]), H157.kept⟩
 refine Sr (Ve ?_)
 refine Am ?_
 refine Qn (Cp rfl (fun hc162 => ?_) (fun hc162 => ?_))
 ·refine Sr (Vv (Gives.build (out := typeCells ⟨1, false⟩) (Fills.one rfl rfl rfl (by simp) rfl Fills.nil)) (FL_storeAll H56 (h := fun w165 H165 => ?_)))
  refine Am ?_
  refine Qn (Rb (QfnC_ret (h := ?_)))
  exact ⟨_, resC2 H165, made_out (t := ⟨1, false⟩) (ok := true) (by rw [hres, if_neg (by omega), if_neg (by omega), if_neg (by omega), if_pos (by omega)]; rfl), H165.kept⟩
 refine Sr (Ve ?_)
 refine Am ?_
 refine Qn (Cp rfl (fun hc170 => ?_) (fun hc170 => ?_))
 ·refine FW_seq (FW_drawS rfl H56 (h := fun hok171 w173 H173 => ?_))
  refine Gp hok171 0 rfl rfl (fun _ => (Gives.field0 rfl)) (FGload hok171 1 H173 (h := ?_))
  refine Gp hok171 2 rfl rfl (fun _ => (Gives.field0 rfl)) (FGload hok171 3 H173 (h := ?_))
  refine Gm hok171 4 ?_
  refine FG_split (t := 68) rfl (fun hs178 => ?_) (fun hs178 => ?_)
  ·have hny : (a.null && b.null) = b.null := by rw [hs178]; rfl
   refine Gp hok171 5 rfl rfl (fun _ => (Gives.field0 rfl)) (FGload hok171 6 H173 (h := ?_))
   refine Gp hok171 7 rfl rfl (fun _ => Gives.pickT rfl rfl) (Gp hok171 8 rfl rfl (fun _ => (Gives.build (out := typeCells ⟨a.kind, b.null⟩) (Fills.one rfl rfl rfl (by simp) rfl (Fills.one rfl rfl rfl (by simp) rfl Fills.nil)))) ?_)
   refine Gp hok171 9 rfl rfl (fun _ => (Gives.field0 rfl)) (FGload hok171 10 H173 (h := ?_))
   refine Gp hok171 11 rfl rfl (fun _ => (Gives.field0 rfl)) (FGload hok171 12 H173 (h := ?_))
   refine Gp hok171 13 rfl rfl (fun _ => (Gives.eql rfl rfl)) (FGstoreAll hok171 14 [(13, true), (12, false), (11, true), (10, false), (9, true)] H173 (h := fun w190 H190 => ⟨Stab_pure (Stab_load H190 (h := Stab_pure (Stab_load H190 (h := Stab_pure (Stab_nil))))), ?_⟩))
   refine Gp hok171 15 rfl rfl (fun _ => Gives.assign rfl) (FG_end hok171 (by kernel_rfl) ?_)
   refine Qseq_normal (Rb (QfnC_ret (h := ?_)))
   exact ⟨_, resC2 H190, made_out (t := ⟨a.kind, b.null⟩) (ok := decide (a.kind = b.kind)) (by rw [hres, if_neg (by omega), if_neg (by omega), if_neg (by omega), if_neg (by omega), if_pos (by omega), hny]; simp only [decide_eq_true_eq]), H190.kept⟩
  have hny : (a.null && b.null) = false := by rw [hs178]; rfl
  refine FGoff hok171 5 rfl rfl (by kernel_rfl) ?_
  refine FGoff hok171 6 rfl rfl (by kernel_rfl) ?_
  refine Gp hok171 7 rfl rfl (fun _ => Gives.pickF rfl rfl) (Gp hok171 8 rfl rfl (fun _ => (Gives.build (out := typeCells ⟨a.kind, false⟩) (Fills.one rfl rfl rfl (by simp) rfl (Fills.one rfl rfl rfl (by simp) rfl Fills.nil)))) ?_)
  refine Gp hok171 9 rfl rfl (fun _ => (Gives.field0 rfl)) (FGload hok171 10 H173 (h := ?_))
  refine Gp hok171 11 rfl rfl (fun _ => (Gives.field0 rfl)) (FGload hok171 12 H173 (h := ?_))
  refine Gp hok171 13 rfl rfl (fun _ => (Gives.eql rfl rfl)) (FGstoreAll hok171 14 [(13, true), (12, false), (11, true), (10, false), (9, true)] H173 (h := fun w202 H202 => ⟨Stab_pure (Stab_load H202 (h := Stab_pure (Stab_load H202 (h := Stab_pure (Stab_nil))))), ?_⟩))
  refine Gp hok171 15 rfl rfl (fun _ => Gives.assign rfl) (FG_end hok171 (by kernel_rfl) ?_)
  refine Qseq_normal (Rb (QfnC_ret (h := ?_)))
  exact ⟨_, resC2 H202, made_out (t := ⟨a.kind, false⟩) (ok := decide (a.kind = b.kind)) (by rw [hres, if_neg (by omega), if_neg (by omega), if_neg (by omega), if_neg (by omega), if_pos (by omega), hny]; simp only [decide_eq_true_eq]), H202.kept⟩
 refine FW_skip (Qblk_normal (Qseq_normal (FW_seq (FW_drawS rfl H56 (h := fun hok205 w207 H207 => ?_)))))
 refine Gm hok205 0 ?_
 refine Gp hok205 1 rfl rfl (fun _ => (Gives.build (out := typeCells ⟨3, nn⟩) (Fills.one rfl rfl rfl (by simp) rfl (Fills.one rfl rfl rfl (by simp) rfl Fills.nil)))) (Gp hok205 2 rfl rfl (fun _ => (Gives.field0 rfl)) ?_)
 refine FGload hok205 3 H207 (h := ?_)
 refine Gp hok205 4 rfl rfl (fun _ => (Gives.eql rfl rfl)) (Gm hok205 5 ?_)
 refine FG_splitP (t := 83) rfl (fun hs212 => ?_) (fun hs212 => ?_)
 ·refine FGoff hok205 6 rfl rfl (by kernel_rfl) ?_
  refine FGoff hok205 7 rfl rfl (by kernel_rfl) ?_
  refine FGoff hok205 8 rfl rfl (by kernel_rfl) ?_
  refine Gp hok205 9 rfl rfl (fun _ => Gives.pickT rfl rfl) (FGstoreAll hok205 10 [(9, true), (8, true), (7, true), (6, true)] H207 (h := fun w215 H215 => ⟨Stab_pure (Stab_pure (Stab_pure (Stab_pure (Stab_nil)))), ?_⟩))
  refine Gp hok205 11 rfl rfl (fun _ => Gives.assign rfl) (FG_end hok205 (by kernel_rfl) ?_)
  refine Qseq_normal (FW_ret (QfnC_ret (h := ?_)))
  exact ⟨_, resC2 H215, made_out (t := ⟨3, nn⟩) (ok := true) (by rw [hres, if_neg (by omega), if_neg (by omega), if_neg (by omega), if_neg (by omega), if_neg (by omega), hnn, if_pos (.inl (by assumption))]; rfl), H215.kept⟩
 refine Gp hok205 6 rfl rfl (fun _ => (Gives.field0 rfl)) (FGload hok205 7 H207 (h := ?_))
 refine Gp hok205 8 rfl rfl (fun _ => (Gives.eql rfl rfl)) (Gp hok205 9 rfl rfl (fun _ => Gives.pickF rfl rfl) ?_)
 refine FGstoreAll hok205 10 [(9, true), (8, true), (7, false), (6, true)] H207 (h := fun w223 H223 => ⟨Stab_pure (Stab_pure (Stab_load H223 (h := Stab_pure (Stab_nil)))), ?_⟩)
 refine Gp hok205 11 rfl rfl (fun _ => Gives.assign rfl) (FG_end hok205 (by kernel_rfl) ?_)
 refine Qseq_normal (FW_ret (QfnC_ret (h := ?_)))
 exact ⟨_, resC2 H223, made_out (t := ⟨3, nn⟩) (ok := decide (a.kind = 5)) (by rw [hres, if_neg (by omega), if_neg (by omega), if_neg (by omega), if_neg (by omega), if_neg (by omega), hnn]; simp [*]), H223.kept⟩
end
end Go.Proofs.YtmkaahkbhdlniaaGreatDoor
