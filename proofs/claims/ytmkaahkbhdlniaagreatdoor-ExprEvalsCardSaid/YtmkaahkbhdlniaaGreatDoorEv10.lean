/-
 The document's steps, walked: what may be, and what a step takes.
-/
import Derived.Test.YtmkaahkbhdlniaaGreatDoorEv9
set_option linter.unusedVariables false
set_option linter.unusedSimpArgs false
namespace Go.Proofs.YtmkaahkbhdlniaaGreatDoor
open Go Go.Mw Go.Lib
set_option maxRecDepth 4000
def takesD (kind : Int) : Nat := if 1 ≤ kind ∧ kind ≤ 6 then 0 else if kind = 10 ∨ kind = 15 ∨ kind = 16 ∨ kind = 18 then 1 else 2
theorem takes_may {x : StepM} (h : mayS x = true) : takesD x.kind = takesS x.kind := by
 have hk : 1 ≤ x.kind := by
  unfold mayS at h
  repeat' split at h
  all_goals first | omega | (have := of_decide_eq_true h; omega)
 unfold takesD takesS
 by_cases h7 : x.kind < 7
 ·rw [if_pos (by omega), if_pos h7]
 ·rw [if_neg (by omega), if_neg h7]
section
variable {w : World}
theorem takes_ok22 (k : Int) : Rets Tryz.prog 46 [I k] w fun v w' => v = I (takesD k) ∧ w = w' := by
 have H := Sep.start0 w
 refine rets1 Tryz.func46 rfl rfl rfl rfl ?_
 refine Sr ?_
 refine Am ?_
 refine Qn ?_
 refine FW_seq ?_
 refine Sr ?_
 refine Mv ?_
 refine Qn ?_
 refine FW_block ?_
 refine FW_seq ?_
 refine Sr ?_
 refine Ve ?_
 refine Am ?_
 refine Qn ?_
 refine FW_condP rfl (fun hc5 => ?_) (fun hc5 => ?_)
 ·refine Sk ?_
  refine FW_cond_true (congrArg Value.bool (decide_eq_true hc5)) ?_
  refine Sr ?_
  refine Am ?_
  refine Qn ?_
  refine Rb (Qfn_ret (hR := ?_))
  exact ⟨by unfold takesD; rw [if_pos (by omega)]; rfl, rfl⟩
 ·refine Sr ?_
  refine Ve ?_
  refine Am ?_
  refine Qn ?_
  refine FW_condP rfl (fun hc10 => ?_) (fun hc10 => ?_)
  ·refine Sk ?_
   refine FW_cond_true (congrArg Value.bool (decide_eq_true hc10)) ?_
   refine Sr ?_
   refine Am ?_
   refine Qn ?_
   refine Rb (Qfn_ret (hR := ?_))
   exact ⟨by unfold takesD; rw [if_pos (by omega)]; rfl, rfl⟩
  ·refine Sr ?_
   refine Ve ?_
   refine Am ?_
   refine Qn ?_
   refine FW_condP rfl (fun hc15 => ?_) (fun hc15 => ?_)
   ·refine Sk ?_
    refine FW_cond_true (congrArg Value.bool (decide_eq_true hc15)) ?_
    refine Sr ?_
    refine Am ?_
    refine Qn ?_
    refine Rb (Qfn_ret (hR := ?_))
    exact ⟨by unfold takesD; rw [if_pos (by omega)]; rfl, rfl⟩
   ·refine Sr ?_
    refine Ve ?_
    refine Am ?_
    refine Qn ?_
    refine FW_condP rfl (fun hc20 => ?_) (fun hc20 => ?_)
    ·refine Sk ?_
     refine FW_cond_true (congrArg Value.bool (decide_eq_true hc20)) ?_
     refine Sr ?_
     refine Am ?_
     refine Qn ?_
     refine Rb (Qfn_ret (hR := ?_))
     exact ⟨by unfold takesD; rw [if_pos (by omega)]; rfl, rfl⟩
    ·refine Sr ?_
     refine Ve ?_
     refine Am ?_
     refine Qn ?_
     refine FW_condP rfl (fun hc25 => ?_) (fun hc25 => ?_)
     ·refine Sk ?_
      refine FW_cond_true (congrArg Value.bool (decide_eq_true hc25)) ?_
      refine Sr ?_
      refine Am ?_
      refine Qn ?_
      refine Rb (Qfn_ret (hR := ?_))
      exact ⟨by unfold takesD; rw [if_pos (by omega)]; rfl, rfl⟩
     ·refine FW_region ?_
      refine Ve ?_
      refine Am ?_
      refine Qn ?_
      refine FW_condP rfl (fun hc30 => ?_) (fun hc30 => ?_)
      ·refine Sr ?_
       refine Am ?_
       refine Qn ?_
       refine Rb (Qfn_ret (hR := ?_))
       exact ⟨by unfold takesD; rw [if_pos (by omega)]; rfl, rfl⟩
      ·refine FW_seq ?_
       refine Sr ?_
       refine Ve ?_
       refine Am ?_
       refine Qn ?_
       refine FW_condP rfl (fun hc35 => ?_) (fun hc35 => ?_)
       ·refine Sk ?_
        refine FW_cond_true (congrArg Value.bool (decide_eq_true hc35)) ?_
        refine Sr ?_
        refine Am ?_
        refine Qn ?_
        refine Rb (Qfn_ret (hR := ?_))
        exact ⟨by unfold takesD; rw [if_neg (by omega), if_pos (by omega)]; rfl, rfl⟩
       ·refine Sr ?_
        refine Ve ?_
        refine Am ?_
        refine Qn ?_
        refine FW_condP rfl (fun hc40 => ?_) (fun hc40 => ?_)
        ·refine Sk ?_
         refine FW_cond_true (congrArg Value.bool (decide_eq_true hc40)) ?_
         refine Sr ?_
         refine Am ?_
         refine Qn ?_
         refine Rb (Qfn_ret (hR := ?_))
         exact ⟨by unfold takesD; rw [if_neg (by omega), if_pos (by omega)]; rfl, rfl⟩
        ·refine Sr ?_
         refine Ve ?_
         refine Am ?_
         refine Qn ?_
         refine FW_condP rfl (fun hc45 => ?_) (fun hc45 => ?_)
         ·refine Sk ?_
          refine FW_cond_true (congrArg Value.bool (decide_eq_true hc45)) ?_
          refine Sr ?_
          refine Am ?_
          refine Qn ?_
          refine Rb (Qfn_ret (hR := ?_))
          exact ⟨by unfold takesD; rw [if_neg (by omega), if_pos (by omega)]; rfl, rfl⟩
         ·refine FW_region ?_
          refine Ve ?_
          refine Am ?_
          refine Qn ?_
          refine FW_condP rfl (fun hc50 => ?_) (fun hc50 => ?_)
          ·refine Sr ?_
           refine Am ?_
           refine Qn ?_
           refine Rb (Qfn_ret (hR := ?_))
           exact ⟨by unfold takesD; rw [if_neg (by omega), if_pos (by omega)]; rfl, rfl⟩
          ·refine FW_skip (Qblk_normal (Qseq_normal ?_))
           refine Sr ?_
           refine Am ?_
           refine Qn ?_
           refine FW_ret (Qfn_ret (hR := ?_))
           exact ⟨by unfold takesD; rw [if_neg (by omega), if_neg (by omega)]; rfl, rfl⟩
theorem mayS_ok22 (x : StepM) : Rets Tryz.prog 47 [agg (stepCells x)] w fun v w' => v = .bool (mayS x) ∧ Kept noB w w' := by
 have H := Sep.start0 w
 refine rets1 Tryz.func47 rfl rfl rfl rfl ?_
 refine Sr ?_
 refine FL_box H (h := ?_)
 intro b1 w2 H2 k1
 refine Am ?_
 refine Qn ?_
 refine FW_seq ?_
 refine Sr ?_
 refine Vf ?_
 refine Ld H2 ?_
 refine Qn ?_
 refine FW_block ?_
 refine Sr ?_
 refine Ve ?_
 refine Am ?_
 refine Qn ?_
 refine FW_condP rfl (fun hc8 => ?_) (fun hc8 => ?_)
 ·refine Sr ?_
  refine Vf ?_
  refine Ld H2 ?_
  refine FL_val (Gives.eqlT rfl rfl) rfl ?_
  refine Mv ?_
  refine FL_splitP (t := 10) rfl (fun hs13 => ?_) (fun hs13 => ?_)
  ·refine On ?_
   refine Vf ?_
   refine On ?_
   refine Ld H2 ?_
   refine On ?_
   refine FL_val (Gives.geq rfl rfl) rfl ?_
   refine Pt ?_
   refine Mv ?_
   refine FL_splitP (t := 15) rfl (fun hs19 => ?_) (fun hs19 => ?_)
   ·refine On ?_
    refine Vf ?_
    refine On ?_
    refine Ld H2 ?_
    refine On ?_
    refine FL_val (Gives.leq rfl rfl) rfl ?_
    refine Pt ?_
    refine Am ?_
    refine Qn ?_
    refine Rb (Qfn_ret (hR := ?_))
    exact ⟨boolE (by first | (unfold mayS; simp_all; done) | (simp_all; done) | (unfold mayS; simp_all; omega)), H2.kept⟩
   ·refine Of ?_
    refine Of ?_
    refine Of ?_
    refine Pf ?_
    refine Am ?_
    refine Qn ?_
    refine Rb (Qfn_ret (hR := ?_))
    exact ⟨boolE (by first | (unfold mayS; simp_all; done) | (simp_all; done) | (unfold mayS; simp_all; omega)), H2.kept⟩
  ·refine Of ?_
   refine Of ?_
   refine Of ?_
   refine Pf ?_
   refine Mv ?_
   refine Of ?_
   refine Of ?_
   refine Of ?_
   refine Pf ?_
   refine Am ?_
   refine Qn ?_
   refine Rb (Qfn_ret (hR := ?_))
   exact ⟨boolE (by first | (unfold mayS; simp_all; done) | (simp_all; done) | (unfold mayS; simp_all; omega)), H2.kept⟩
 ·refine Sr ?_
  refine Ve ?_
  refine Am ?_
  refine Qn ?_
  refine FW_condP rfl (fun hc36 => ?_) (fun hc36 => ?_)
  ·refine Sr ?_
   refine Vf ?_
   refine Ld H2 ?_
   refine FL_val (Gives.eqlT rfl rfl) rfl ?_
   refine Am ?_
   refine Qn ?_
   refine Rb (Qfn_ret (hR := ?_))
   exact ⟨boolE (by first | (unfold mayS; simp_all; done) | (simp_all; done) | (unfold mayS; simp_all; omega)), H2.kept⟩
  ·refine Sr ?_
   refine Ve ?_
   refine Am ?_
   refine Qn ?_
   refine FW_condP rfl (fun hc44 => ?_) (fun hc44 => ?_)
   ·refine Sr ?_
    refine Vf ?_
    refine Ld H2 ?_
    refine FL_val (Gives.eqlT rfl rfl) rfl ?_
    refine Mv ?_
    refine FL_splitP (t := 30) rfl (fun hs49 => ?_) (fun hs49 => ?_)
    ·refine On ?_
     refine Vf ?_
     refine On ?_
     refine Ld H2 ?_
     refine On ?_
     refine FL_val (Gives.geq rfl rfl) rfl ?_
     refine Pt ?_
     refine Mv ?_
     refine FL_splitP (t := 35) rfl (fun hs55 => ?_) (fun hs55 => ?_)
     ·refine On ?_
      refine Vf ?_
      refine On ?_
      refine Ld H2 ?_
      refine On ?_
      refine FL_val (Gives.leq rfl rfl) rfl ?_
      refine Pt ?_
      refine Am ?_
      refine Qn ?_
      refine Rb (Qfn_ret (hR := ?_))
      exact ⟨boolE (by first | (unfold mayS; simp_all; done) | (simp_all; done) | (unfold mayS; simp_all; omega)), H2.kept⟩
     ·refine Of ?_
      refine Of ?_
      refine Of ?_
      refine Pf ?_
      refine Am ?_
      refine Qn ?_
      refine Rb (Qfn_ret (hR := ?_))
      exact ⟨boolE (by first | (unfold mayS; simp_all; done) | (simp_all; done) | (unfold mayS; simp_all; omega)), H2.kept⟩
    ·refine Of ?_
     refine Of ?_
     refine Of ?_
     refine Pf ?_
     refine Mv ?_
     refine Of ?_
     refine Of ?_
     refine Of ?_
     refine Pf ?_
     refine Am ?_
     refine Qn ?_
     refine Rb (Qfn_ret (hR := ?_))
     exact ⟨boolE (by first | (unfold mayS; simp_all; done) | (simp_all; done) | (unfold mayS; simp_all; omega)), H2.kept⟩
   ·refine Sr ?_
    refine Ve ?_
    refine Am ?_
    refine Qn ?_
    refine FW_condP rfl (fun hc72 => ?_) (fun hc72 => ?_)
    ·refine Sr ?_
     refine Vf ?_
     refine Ld H2 ?_
     refine Ve ?_
     refine Mv ?_
     refine FL_splitP (t := 45) rfl (fun hs77 => ?_) (fun hs77 => ?_)
     ·refine On ?_
      refine Vf ?_
      refine On ?_
      refine Ld H2 ?_
      refine On ?_
      refine Vt ?_
      refine On ?_
      refine FL_val (Gives.leq rfl rfl) rfl ?_
      refine Pt ?_
      refine Mv ?_
      refine FL_splitP (t := 51) rfl (fun hs84 => ?_) (fun hs84 => ?_)
      ·refine On ?_
       refine Vf ?_
       refine On ?_
       refine Ld H2 ?_
       refine On ?_
       refine FL_callQ H2 (valid_ok4 x.s (by omega)) (h := fun w88 H88 _ => ?_)
       refine Pt ?_
       refine Am ?_
       refine Qn ?_
       refine Rb (Qfn_ret (hR := ?_))
       exact ⟨boolE (by first | (unfold mayS; simp_all; done) | (simp_all; done) | (unfold mayS; simp_all; omega)), H88.kept⟩
      ·refine Of ?_
       refine Of ?_
       refine Of ?_
       refine Pf ?_
       refine Am ?_
       refine Qn ?_
       refine Rb (Qfn_ret (hR := ?_))
       exact ⟨boolE (by first | (unfold mayS; simp_all; done) | (simp_all; done) | (unfold mayS; simp_all; omega)), H2.kept⟩
     ·refine Of ?_
      refine Of ?_
      refine Of ?_
      refine Of ?_
      refine Pf ?_
      refine Mv ?_
      refine Of ?_
      refine Of ?_
      refine Of ?_
      refine Pf ?_
      refine Am ?_
      refine Qn ?_
      refine Rb (Qfn_ret (hR := ?_))
      exact ⟨boolE (by first | (unfold mayS; simp_all; done) | (simp_all; done) | (unfold mayS; simp_all; omega)), H2.kept⟩
    ·refine Sr ?_
     refine Ve ?_
     refine Am ?_
     refine Qn ?_
     refine FW_condP rfl (fun hc102 => ?_) (fun hc102 => ?_)
     ·refine Sr ?_
      refine Vf ?_
      refine Ld H2 ?_
      refine Ve ?_
      refine Mv ?_
      refine FL_splitP (t := 61) rfl (fun hs107 => ?_) (fun hs107 => ?_)
      ·refine On ?_
       refine Vf ?_
       refine On ?_
       refine Ld H2 ?_
       refine On ?_
       refine Vt ?_
       refine On ?_
       refine FL_val (Gives.leq rfl rfl) rfl ?_
       refine Pt ?_
       refine Am ?_
       refine Qn ?_
       refine Rb (Qfn_ret (hR := ?_))
       exact ⟨boolE (by first | (unfold mayS; simp_all; done) | (simp_all; done) | (unfold mayS; simp_all; omega)), H2.kept⟩
      ·refine Of ?_
       refine Of ?_
       refine Of ?_
       refine Of ?_
       refine Pf ?_
       refine Am ?_
       refine Qn ?_
       refine Rb (Qfn_ret (hR := ?_))
       exact ⟨boolE (by first | (unfold mayS; simp_all; done) | (simp_all; done) | (unfold mayS; simp_all; omega)), H2.kept⟩
     ·refine Sr ?_
      refine Ve ?_
      refine Am ?_
      refine Qn ?_
      refine FW_condP rfl (fun hc120 => ?_) (fun hc120 => ?_)
      ·refine Sr ?_
       refine Vf ?_
       refine Ld H2 ?_
       refine FL_val (Gives.eqlT rfl rfl) rfl ?_
       refine Mv ?_
       refine FL_splitP (t := 72) rfl (fun hs125 => ?_) (fun hs125 => ?_)
       ·refine On ?_
        refine Vf ?_
        refine On ?_
        refine Ld H2 ?_
        refine On ?_
        refine Ve ?_
        refine On ?_
        refine Mv ?_
        refine FL_splitP (t := 76) rfl (fun hs130 => ?_) (fun hs130 => ?_)
        ·refine Of ?_
         refine Of ?_
         refine Of ?_
         refine Of ?_
         refine Ou ?_
         refine Ou ?_
         refine Ou ?_
         refine Of ?_
         refine On ?_
         refine Pt ?_
         refine Pt ?_
         refine Am ?_
         refine Qn ?_
         refine Rb (Qfn_ret (hR := ?_))
         exact ⟨boolE (by first | (unfold mayS; simp_all; done) | (simp_all; done) | (unfold mayS; simp_all; omega)), H2.kept⟩
        ·refine On ?_
         refine Vf ?_
         refine On ?_
         refine Ld H2 ?_
         refine On ?_
         refine FL_val (Gives.geq rfl rfl) rfl ?_
         refine On ?_
         refine Mv ?_
         refine FL_splitP (t := 80) rfl (fun hs139 => ?_) (fun hs139 => ?_)
         ·refine On ?_
          refine Vf ?_
          refine On ?_
          refine Ld H2 ?_
          refine On ?_
          refine FL_val (Gives.leq rfl rfl) rfl ?_
          refine On ?_
          refine Pt ?_
          refine On ?_
          refine Pf ?_
          refine Pt ?_
          refine Am ?_
          refine Qn ?_
          refine Rb (Qfn_ret (hR := ?_))
          exact ⟨boolE (by first | (unfold mayS; simp_all; done) | (simp_all; done) | (unfold mayS; simp_all; omega)), H2.kept⟩
         ·refine Of ?_
          refine Of ?_
          refine Of ?_
          refine On ?_
          refine Pf ?_
          refine On ?_
          refine Pf ?_
          refine Pt ?_
          refine Am ?_
          refine Qn ?_
          refine Rb (Qfn_ret (hR := ?_))
          exact ⟨boolE (by first | (unfold mayS; simp_all; done) | (simp_all; done) | (unfold mayS; simp_all; omega)), H2.kept⟩
       ·refine Of ?_
        refine Of ?_
        refine Of ?_
        refine Of ?_
        refine Ou ?_
        refine Ou ?_
        refine Ou ?_
        refine Ou ?_
        refine Ou ?_
        refine Ou ?_
        refine Ou ?_
        refine Ou ?_
        refine Of ?_
        refine Pf ?_
        refine Am ?_
        refine Qn ?_
        refine Rb (Qfn_ret (hR := ?_))
        exact ⟨boolE (by first | (unfold mayS; simp_all; done) | (simp_all; done) | (unfold mayS; simp_all; omega)), H2.kept⟩
      ·refine FW_skip (Qblk_normal (Qseq_normal ?_))
       refine Sr ?_
       refine Vf ?_
       refine Ld H2 ?_
       refine FL_val (Gives.geq rfl rfl) rfl ?_
       refine Mv ?_
       refine FL_splitP (t := 90) rfl (fun hs160 => ?_) (fun hs160 => ?_)
       ·refine On ?_
        refine Vf ?_
        refine On ?_
        refine Ld H2 ?_
        refine On ?_
        refine FL_val (Gives.leq rfl rfl) rfl ?_
        refine Pt ?_
        refine Mv ?_
        refine FL_splitP (t := 95) rfl (fun hs166 => ?_) (fun hs166 => ?_)
        ·refine On ?_
         refine Vf ?_
         refine On ?_
         refine Ld H2 ?_
         refine On ?_
         refine Ve ?_
         refine Pt ?_
         refine Mv ?_
         refine FL_splitP (t := 100) rfl (fun hs172 => ?_) (fun hs172 => ?_)
         ·refine On ?_
          refine Vf ?_
          refine On ?_
          refine Ld H2 ?_
          refine On ?_
          refine FL_val (Gives.eqlT rfl rfl) rfl ?_
          refine Pt ?_
          refine Am ?_
          refine Qn ?_
          refine FW_ret (Qfn_ret (hR := ?_))
          exact ⟨boolE (by first | (unfold mayS; simp_all; done) | (simp_all; done) | (unfold mayS; simp_all; omega)), H2.kept⟩
         ·refine Of ?_
          refine Of ?_
          refine Of ?_
          refine Pf ?_
          refine Am ?_
          refine Qn ?_
          refine FW_ret (Qfn_ret (hR := ?_))
          exact ⟨boolE (by first | (unfold mayS; simp_all; done) | (simp_all; done) | (unfold mayS; simp_all; omega)), H2.kept⟩
        ·refine Of ?_
         refine Of ?_
         refine Of ?_
         refine Pf ?_
         refine Mv ?_
         refine Of ?_
         refine Of ?_
         refine Of ?_
         refine Pf ?_
         refine Am ?_
         refine Qn ?_
         refine FW_ret (Qfn_ret (hR := ?_))
         exact ⟨boolE (by first | (unfold mayS; simp_all; done) | (simp_all; done) | (unfold mayS; simp_all; omega)), H2.kept⟩
       ·refine Of ?_
        refine Of ?_
        refine Of ?_
        refine Pf ?_
        refine Mv ?_
        refine Of ?_
        refine Of ?_
        refine Of ?_
        refine Pf ?_
        refine Mv ?_
        refine Of ?_
        refine Of ?_
        refine Of ?_
        refine Pf ?_
        refine Am ?_
        refine Qn ?_
        refine FW_ret (Qfn_ret (hR := ?_))
        exact ⟨boolE (by first | (unfold mayS; simp_all; done) | (simp_all; done) | (unfold mayS; simp_all; omega)), H2.kept⟩
end
end Go.Proofs.YtmkaahkbhdlniaaGreatDoor
/-
 The document's steps, walked: columns, types of leaves.
-/
namespace Go.Proofs.YtmkaahkbhdlniaaGreatDoor
open Go Go.Mw Go.Lib
set_option maxRecDepth 4000
def colI (cols : List ColM) (n : Int) : Int := match findC cols n with | some i => i | none => -1
theorem find_none {cols : List ColM} {n : Int} (h : ∀ (j : Nat) a, cols[j]? = some a → a.id ≠ n) : findC cols n = none := by
 unfold findC
 rw [List.findIdx?_eq_none_iff]
 intro a ha
 obtain ⟨j, hj⟩ := List.getElem?_of_mem ha
 simpa using h j a hj
theorem find_some {cols : List ColM} {n : Int} {i : Nat} {a : ColM} (hi : cols[i]? = some a) (he : a.id = n) (h : ∀ (j : Nat) a, j < i → cols[j]? = some a → a.id ≠ n) : findC cols n = some i := by
 have hl := get_lt hi
 have hia : cols[i] = a := by rw [List.getElem?_eq_getElem hl] at hi; injection hi
 unfold findC
 rw [List.findIdx?_eq_some_iff_getElem]
 refine ⟨hl, by simp [hia, he], fun j hj => ?_⟩
 have := h j cols[j] hj (List.getElem?_eq_getElem (by omega))
 simpa using this
theorem colI_neg {cols : List ColM} {n : Int} (h : colI cols n < 0) : findC cols n = none := by
 unfold colI at h
 split at h
 ·omega
 ·assumption
theorem colI_some {cols : List ColM} {n : Int} (h : ¬ colI cols n < 0) : ∃ i, findC cols n = some i ∧ colI cols n = (i : Int) := by
 unfold colI at h ⊢
 cases e : findC cols n with
 | none => rw [e] at h; simp at h
 | some i => exact ⟨i, rfl, rfl⟩
theorem find_lt {cols : List ColM} {n : Int} {i : Nat} (h : findC cols n = some i) : i < cols.length := by
 unfold findC at h
 rw [List.findIdx?_eq_some_iff_getElem] at h
 exact h.1
section
variable {w : World}
theorem column_ok22 {cols : List ColM} {vc : Value} (n : Int) (hc : RowIn w vc colCells 7 cols) : Rets Tryz.prog 56 [vc, I n] w fun v w' => v = I (colI cols n) ∧ Kept noB w w' := by
  obtain ⟨A, m, rfl, ⟨hm, hm'⟩, hA⟩ := hc
  have H := Sep.start0 w
  refine rets2 Tryz.func56 rfl rfl rfl rfl ?_
  refine Sr ?_
  refine Am ?_
  refine Qn ?_
  refine FW_seq ?_
  refine Sr ?_
  refine Am ?_
  refine Qn ?_
  refine FW_block ?_
  refine FW_loop' (fun i : Nat => [(0, .slice A cols.length m), (1, I n), (5, I i)]) (fun i w' => (i ≤ cols.length ∧ ∀ (j : Nat) a, j < i → cols[j]? = some a → a.id ≠ n) ∧ Sep w noB [] w') (fun i _ => cols.length - i) 0 ⟨rfl, rfl, rfl, trivial⟩ ⟨⟨Nat.zero_le _, fun j a hj => by omega⟩, H⟩ (fun i τ w4 hI => ?_)
  obtain ⟨⟨hi, hst⟩, H4⟩ := hI
  try simp only [upds, like, upd_ds, und_ds]
  refine FW_seq ?_
  refine Sr ?_
  refine Mv ?_
  refine Mv ?_
  refine Vs ?_
  refine Vl ?_
  refine Qn ?_
  refine FW_condP rfl (fun hc9 => ?_) (fun hc9 => ?_)
  · have hlt : i < cols.length := by omega
    obtain ⟨a, ha⟩ := get_some hlt
    refine Sk ?_
    refine FW_seq ?_
    refine FW_block ?_
    refine Sr ?_
    refine Mv ?_
    refine Mv ?_
    refine FL_val (Gives.idxR rfl rfl (by assumption) (by omega)) rfl ?_
    refine FL_val (Gives.fieldR rfl (by assumption) (by omega)) rfl ?_
    refine FL_val (Gives.loadE rfl H4 (by assumption) (by assumption) rfl) rfl ?_
    refine Mv ?_
    refine Ve ?_
    refine Qn ?_
    refine FW_condP rfl (fun hc18 => ?_) (fun hc18 => ?_)
    · have hfin : colI cols n = i := by
        unfold colI
        rw [find_some ha hc18 hst]
      refine Sr ?_
      refine Mv ?_
      refine Am ?_
      refine Qn ?_
      refine Rb (Qround_ret (Qblk_ret (Qseq_ret (Qfn_ret (hR := ?_)))))
      exact ⟨by rw [hfin]; rfl, H4.kept⟩
    · have hst' : ∀ (j : Nat) a, j < i + 1 → cols[j]? = some a → a.id ≠ n := by
        intro j b hj hb
        rcases Nat.lt_or_ge j i with h | h
        · exact hst j b h hb
        · have : j = i := by omega
          subst this
          rw [ha] at hb; injection hb with hb; subst hb; exact hc18
      refine FW_skip (Qblk_normal (Qseq_normal ?_))
      refine FW_region ?_
      refine Mv ?_
      refine FL_val (Gives.addI rfl rfl rfl (by omega)) rfl ?_
      refine Am ?_
      refine FL_nil ?_
      exact Qround_normal (i + 1) ⟨rfl, rfl, rfl, trivial⟩ ⟨⟨by omega, hst'⟩, H4⟩ (by omega)
  · have hfin : colI cols n = -1 := by
      unfold colI
      rw [find_none fun j a hj => hst j a (by have := get_lt hj; omega) hj]
    refine FW_exit (Qseq_exit (Qround_exit (Qblk_exit (Qseq_normal ?_))))
    refine Sr ?_
    refine Am ?_
    refine Qn ?_
    refine FW_ret (Qfn_ret (hR := ?_))
    exact ⟨by rw [hfin]; rfl, H4.kept⟩
theorem truth_ok22 (b : Bool) : Rets Tryz.prog 100 [.bool b] w fun v w' => v = agg (cellCells (flagC b)) ∧ Kept noB w w' := by
 have H := Sep.start0 w
 refine retsC1 Tryz.func100 rfl rfl rfl rfl ?_
 refine Sr ?_
 refine FL_alloc H (h := ?_)
 intro b1 w2 H2 k1
 refine Qn ?_
 refine FW_seq ?_
 refine Sr ?_
 refine Mv ?_
 refine Qn ?_
 refine FW_cond rfl (fun hc4 => ?_) (fun hc4 => ?_)
 ·refine Sr ?_
  refine FL_val (Gives.build (out := cellCells (flagC true)) (Fills.one rfl rfl rfl (by decide) rfl Fills.nil)) rfl ?_
  refine FL_storeAll H2 (h := ?_)
  intro w7 H7
  refine Qn ?_
  refine Rs (QfnC_ret (h := ?_))
  refine ⟨_, resC1 H7, ?_⟩
  exact ⟨by simp_all [agg]; rfl, H7.kept⟩
 ·refine Sk ?_
  refine Sr ?_
  refine FL_val (Gives.build (out := cellCells (flagC false)) Fills.nil) rfl ?_
  refine FL_storeAll H2 (h := ?_)
  intro w11 H11
  refine Qn ?_
  refine FW_ret (QfnC_ret (h := ?_))
  refine ⟨_, resC1 H11, ?_⟩
  exact ⟨by simp_all [agg]; rfl, H11.kept⟩
end
attribute [local irreducible] mayT
section
variable {w : World}
theorem leaf_ok22 {cols : List ColM} {vc : Value} (x : StepM) (hc : RowIn w vc colCells 7 cols) : Rets Tryz.prog 48 [vc, agg (stepCells x)] w fun v w' => v = .tuple #[agg (typeCells ((leafT cols x).getD type0)), .bool (leafT cols x).isSome] ∧ Kept noB w w' := by
 have hcc := hc
 obtain ⟨A, m, rfl, ⟨hm, hm'⟩, hA⟩ := hc
 have H := Sep.start0 w
 obtain ⟨res, hres⟩ : ∃ res, res = leafT cols x := ⟨_, rfl⟩
 rw [← hres]
 unfold leafT at hres
 refine retsC2 Tryz.func48 rfl rfl rfl rfl ?_
 refine Sr ?_
 refine FL_box H (h := ?_)
 intro b1 w2 H2 k1
 refine FL_alloc H2 (h := ?_)
 intro b3 w4 H4 k3
 refine Am ?_
 refine Qn ?_
 refine FW_seq ?_
 refine Sr ?_
 refine Vf ?_
 refine Ld H4 ?_
 refine Qn ?_
 refine FW_block ?_
 refine Sr ?_
 refine Ve ?_
 refine Am ?_
 refine Qn ?_
 refine FW_condP rfl (fun hc10 => ?_) (fun hc10 => ?_)
 ·rw [if_pos hc10] at hres
  refine Sr ?_
  refine Mv ?_
  refine Vf ?_
  refine Ld H4 ?_
  refine FL_callQ H4 (column_ok22 x.n (hcc.keep H4.kept)) (h := fun w16 H16 k15 => ?_)
  refine Am ?_
  refine Qn ?_
  refine FW_seq ?_
  refine Sr ?_
  refine Mv ?_
  refine Vl ?_
  refine Mv ?_
  refine FL_splitP (t := 18) rfl (fun hs21 => ?_) (fun hs21 => ?_)
  ·have hfin : res = none := by rw [hres, colI_neg hs21]
   refine Of ?_
   refine Of ?_
   refine Of ?_
   refine Of ?_
   refine Of ?_
   refine Of ?_
   refine Of ?_
   refine Pt ?_
   refine Qn ?_
   refine FW_cond_true rfl ?_
   refine Sr ?_
   refine FL_val (Gives.build (out := typeCells type0) Fills.nil) rfl ?_
   refine FL_storeAll H16 (h := ?_)
   intro w26 H26
   refine Am ?_
   refine Qn ?_
   refine Rs (Qblk_ret (Qseq_ret (QfnC_ret (h := ?_))))
   refine ⟨_, resC2 H26, ?_⟩
   exact ⟨by first | (rw [hfin]; rfl) | (rw [hres]; rfl), H26.kept⟩
  ·obtain ⟨i, hf, hI⟩ := colI_some hs21
   have hlt := find_lt hf
   obtain ⟨a, ha⟩ := get_some hlt
   have hgd : cols.getD i ⟨0, [], type0, cell0⟩ = a := by rw [List.getD_eq_getElem?_getD, ha]; rfl
   rw [hf] at hres
   dsimp only at hres
   rw [hgd] at hres
   rw [hI]
   refine On ?_
   refine Mv ?_
   refine On ?_
   refine Mv ?_
   refine On ?_
   refine FL_val (Gives.idxR rfl rfl (by assumption) (by omega)) rfl ?_
   refine On ?_
   refine FL_val (Gives.fieldR rfl (by assumption) (by omega)) rfl ?_
   refine On ?_
   refine FL_val (Gives.loadEN (us := typeCells _) rfl H16 (by assumption) (by assumption) rfl rfl) rfl ?_
   refine On ?_
   refine FL_callQ H16 (may_ok9 _) (h := fun w36 H36 k35 => ?_)
   refine On ?_
   refine FL_val (Gives.not rfl) rfl ?_
   refine Pf ?_
   refine Qn ?_
   refine FW_cond rfl (fun hc39 => ?_) (fun hc39 => ?_)
   ·have hfin : res = none := by rw [hres, if_pos (by simpa using hc39)]
    refine Sr ?_
    refine FL_val (Gives.build (out := typeCells type0) Fills.nil) rfl ?_
    refine FL_storeAll H36 (h := ?_)
    intro w43 H43
    refine Am ?_
    refine Qn ?_
    refine Rs (Qblk_ret (Qseq_ret (QfnC_ret (h := ?_))))
    refine ⟨_, resC2 H43, ?_⟩
    exact ⟨by first | (rw [hfin]; rfl) | (rw [hres]; rfl), H43.kept⟩
   ·rw [if_neg (by simpa using hc39)] at hres
    refine Sk ?_
    refine Sr ?_
    refine Mv ?_
    refine Mv ?_
    refine FL_val (Gives.idxR rfl rfl (by assumption) (by omega)) rfl ?_
    refine FL_val (Gives.fieldR rfl (by assumption) (by omega)) rfl ?_
    refine FL_val (Gives.loadEN (us := typeCells _) rfl H36 (by assumption) (by assumption) rfl rfl) rfl ?_
    refine FL_alloc H36 (h := ?_)
    intro b52 w53 H53 k52
    refine FL_storeAll H53 (h := ?_)
    intro w55 H55
    refine Qn ?_
    refine FW_seq ?_
    refine Sr ?_
    refine Vf ?_
    refine Ld H55 ?_
    refine Ve ?_
    refine Qn ?_
    refine FW_condP rfl (fun hc59 => ?_) (fun hc59 => ?_)
    ·rw [if_pos hc59] at hres
     obtain ⟨t, ht⟩ : ∃ t, t = TypeM.mk 3 a.type.null := ⟨_, rfl⟩
     rw [← ht] at hres
     refine FW_region ?_
     refine Vf ?_
     refine FL_store H55 (cs' := typeCells t) (hs := by rw [ht]; rfl) (h := ?_)
     intro w63 H63
     refine Nx ?_
     refine FL_loadAll H63 (h := ?_)
     refine FL_storeAll H63 (h := ?_)
     intro w66 H66
     refine Am ?_
     refine Qn ?_
     refine Rb (QfnC_ret (h := ?_))
     refine ⟨_, resC2 H66, ?_⟩
     exact ⟨by first | (rw [hfin]; rfl) | (rw [hres]; rfl), H66.kept⟩
    ·rw [if_neg hc59] at hres
     obtain ⟨t, ht⟩ : ∃ t, t = a.type := ⟨_, rfl⟩
     rw [← ht] at hres H55
     refine Sk ?_
     refine Sr ?_
     refine FL_loadAll H55 (h := ?_)
     refine FL_storeAll H55 (h := ?_)
     intro w72 H72
     refine Am ?_
     refine Qn ?_
     refine Rb (QfnC_ret (h := ?_))
     refine ⟨_, resC2 H72, ?_⟩
     exact ⟨by first | (rw [hfin]; rfl) | (rw [hres]; rfl), H72.kept⟩
 ·rw [if_neg hc10] at hres
  refine Sr ?_
  refine Ve ?_
  refine Am ?_
  refine Qn ?_
  refine FW_condP rfl (fun hc78 => ?_) (fun hc78 => ?_)
  ·rw [if_pos hc78] at hres
   refine Sr ?_
   refine FL_val (Gives.build (out := typeCells ⟨3, false⟩) (Fills.one rfl rfl rfl (by simp) rfl Fills.nil)) rfl ?_
   refine FL_storeAll H4 (h := ?_)
   intro w82 H82
   refine Am ?_
   refine Qn ?_
   refine Rb (QfnC_ret (h := ?_))
   refine ⟨_, resC2 H82, ?_⟩
   exact ⟨by first | (rw [hfin]; rfl) | (rw [hres]; rfl), H82.kept⟩
  ·rw [if_neg hc78] at hres
   refine Sr ?_
   refine Ve ?_
   refine Am ?_
   refine Qn ?_
   refine FW_condP rfl (fun hc88 => ?_) (fun hc88 => ?_)
   ·rw [if_pos hc88] at hres
    refine Sr ?_
    refine FL_val (Gives.build (out := typeCells ⟨1, false⟩) (Fills.one rfl rfl rfl (by simp) rfl Fills.nil)) rfl ?_
    refine FL_storeAll H4 (h := ?_)
    intro w92 H92
    refine Am ?_
    refine Qn ?_
    refine Rb (QfnC_ret (h := ?_))
    refine ⟨_, resC2 H92, ?_⟩
    exact ⟨by first | (rw [hfin]; rfl) | (rw [hres]; rfl), H92.kept⟩
   ·rw [if_neg hc88] at hres
    refine Sr ?_
    refine Ve ?_
    refine Am ?_
    refine Qn ?_
    refine FW_condP rfl (fun hc98 => ?_) (fun hc98 => ?_)
    ·rw [if_pos hc98] at hres
     refine Sr ?_
     refine FL_val (Gives.build (out := typeCells ⟨4, false⟩) (Fills.one rfl rfl rfl (by simp) rfl Fills.nil)) rfl ?_
     refine FL_storeAll H4 (h := ?_)
     intro w102 H102
     refine Am ?_
     refine Qn ?_
     refine Rb (QfnC_ret (h := ?_))
     refine ⟨_, resC2 H102, ?_⟩
     exact ⟨by first | (rw [hfin]; rfl) | (rw [hres]; rfl), H102.kept⟩
    ·rw [if_neg hc98] at hres
     refine Sr ?_
     refine Ve ?_
     refine Am ?_
     refine Qn ?_
     refine FW_condP rfl (fun hc108 => ?_) (fun hc108 => ?_)
     ·rw [if_pos hc108] at hres
      refine Sr ?_
      refine FL_val (Gives.build (out := typeCells ⟨5, false⟩) (Fills.one rfl rfl rfl (by simp) rfl Fills.nil)) rfl ?_
      refine FL_storeAll H4 (h := ?_)
      intro w112 H112
      refine Am ?_
      refine Qn ?_
      refine Rb (QfnC_ret (h := ?_))
      refine ⟨_, resC2 H112, ?_⟩
      exact ⟨by first | (rw [hfin]; rfl) | (rw [hres]; rfl), H112.kept⟩
     ·rw [if_neg hc108] at hres
      refine FW_skip (Qblk_normal (Qseq_normal ?_))
      refine Sr ?_
      refine Vf ?_
      refine Ld H4 ?_
      refine FL_val (Gives.build (out := typeCells ⟨x.n, true⟩) (Fills.one rfl rfl rfl (by simp) rfl (Fills.one rfl rfl rfl (by simp) rfl Fills.nil))) rfl ?_
      refine FL_storeAll H4 (h := ?_)
      intro w120 H120
      refine Am ?_
      refine Qn ?_
      refine FW_ret (QfnC_ret (h := ?_))
      refine ⟨_, resC2 H120, ?_⟩
      exact ⟨by first | (rw [hfin]; rfl) | (rw [hres]; rfl), H120.kept⟩
end
end Go.Proofs.YtmkaahkbhdlniaaGreatDoor
