/-
 The document's steps, walked: products, logic.
-/
import Derived.Test.YtmkaahkbhdlniaaGreatDoorEv12
set_option linter.unusedVariables false
set_option linter.unusedSimpArgs false
namespace Go.Proofs.YtmkaahkbhdlniaaGreatDoor
open Go Go.Mw Go.Lib
set_option maxRecDepth 4000
theorem quo_fits {n b : Int} (hn : -9223372036854775808 ≤ n ∧ n ≤ 9223372036854775807) (h0 : b ≠ 0) (h1 : b ≠ -1) : -9223372036854775808 ≤ n.tdiv b ∧ n.tdiv b ≤ 9223372036854775807 := by
 by_cases hb : b = 1
 ·subst hb; rw [Int.tdiv_one]; exact hn
 ·have e : (n.tdiv b).natAbs = n.natAbs / b.natAbs := Int.natAbs_tdiv n b
  have hb2 : 2 ≤ b.natAbs := by omega
  have h2 : n.natAbs / b.natAbs ≤ n.natAbs / 2 := Nat.div_le_div_left hb2 (by decide)
  obtain ⟨q, hq⟩ : ∃ q, q = n.natAbs / b.natAbs := ⟨_, rfl⟩
  obtain ⟨m, hm⟩ : ∃ m, m = n.tdiv b := ⟨_, rfl⟩
  rw [← hq] at e h2
  rw [← hm] at e ⊢
  omega
theorem prod_fits {a b : Int} (h0 : b ≠ 0) (hb : -9223372036854775808 ≤ b ∧ b ≤ 9223372036854775807) : (IntKind.i64.wrap (a * b)).tdiv b = a ↔ fitsI (a * b) = true := by
 obtain ⟨p, hp⟩ : ∃ p, p = a * b := ⟨_, rfl⟩
 rw [← hp]
 constructor
 ·intro h
  refine decide_eq_true ?_
  obtain ⟨n, hn⟩ : ∃ n, n = IntKind.i64.wrap p := ⟨_, rfl⟩
  rw [← hn] at h
  have hm := (Int.mul_tdiv_add_tmod n b).symm
  have hm2 : (n.tmod b).natAbs = n.natAbs % b.natAbs := Int.natAbs_tmod n b
  have hm3 : n.natAbs % b.natAbs < b.natAbs := Nat.mod_lt _ (by omega)
  rw [h, Int.mul_comm, ← hp] at hm
  rw [IntKind.wrap_i64] at hn
  omega
 ·intro h
  have h' := of_decide_eq_true h
  rw [wrap64 h', hp, Int.mul_tdiv_cancel _ h0]
/-- What and, or, not make as the document does it. -/
def logicG (k : Int) (a b : CellM) : CellM :=
 if k = 13 ∧ ((a.null = false ∧ a.n = 0) ∨ (b.null = false ∧ b.n = 0)) then flagC false
 else if k = 14 ∧ (a.n = 1 ∨ b.n = 1) then flagC true
 else if a.null = true ∨ b.null = true then cellNull
 else if k = 15 then flagC (decide (a.n = 0))
 else flagC (decide (k = 13))
section
variable {w : World}
theorem product_ok22 (a b : Int) (ha : fits a) (hb : fits b) : Rets Tryz.prog 102 [I a, I b] w fun v w' => (∃ c, v = .tuple #[I c, .bool (fitsI (a * b))] ∧ (fitsI (a * b) = true → c = a * b)) ∧ Kept noB w w' := by
 have H := Sep.start0 w
 obtain ⟨ha1, ha2⟩ := ha
 obtain ⟨hb1, hb2⟩ := hb
 refine rets2 Tryz.func102 rfl rfl rfl rfl ?_
 refine Sr ?_
 refine Am ?_
 refine Am ?_
 refine Qn ?_
 refine FW_seq ?_
 refine Sr ?_
 refine Mv ?_
 refine Ve ?_
 refine Mv ?_
 refine FL_splitP (t := 9) rfl (fun hs6 => ?_) (fun hs6 => ?_)
 ·refine Of ?_
  refine Of ?_
  refine Pt ?_
  refine Qn ?_
  refine FW_cond_true rfl ?_
  refine Sr ?_
  refine Am ?_
  refine Am ?_
  refine Qn ?_
  refine Rs (Qfn_ret (hR := ?_))
  have h0 : a * b = 0 := by first | (rw [show a = 0 by omega]; simp) | (rw [show b = 0 by omega]; simp)
  rw [h0]
  exact ⟨⟨0, rfl, fun _ => rfl⟩, H.kept⟩
 ·refine On ?_
  refine Mv ?_
  refine On ?_
  refine Ve ?_
  refine Pf ?_
  refine Qn ?_
  refine FW_condP rfl (fun hc14 => ?_) (fun hc14 => ?_)
  ·refine Sr ?_
   refine Am ?_
   refine Am ?_
   refine Qn ?_
   refine Rs (Qfn_ret (hR := ?_))
   have h0 : a * b = 0 := by first | (rw [show a = 0 by omega]; simp) | (rw [show b = 0 by omega]; simp)
   rw [h0]
   exact ⟨⟨0, rfl, fun _ => rfl⟩, H.kept⟩
  ·refine Sk ?_
   refine FW_seq ?_
   refine Sr ?_
   refine Mv ?_
   refine Ve ?_
   refine Qn ?_
   refine FW_condP rfl (fun hc20 => ?_) (fun hc20 => ?_)
   ·refine Sr ?_
    refine Mv ?_
    refine FL_val (Gives.negW (c := IntKind.i64.wrap (0 - b)) rfl rfl) rfl ?_
    refine Mv ?_
    refine Vn ?_
    refine Am ?_
    refine Am ?_
    refine Qn ?_
    refine Rs (Qfn_ret (hR := ?_))
    have h0 : a * b = -b := by rw [show a = -1 by omega]; simp
    rw [h0]
    have hf : fitsI (-b) = decide (b ≠ -9223372036854775808) := by unfold fitsI; rw [decide_eq_decide]; omega
    rw [hf]
    exact ⟨⟨IntKind.i64.wrap (0 - b), rfl, fun h => by have := of_decide_eq_true h; rw [wrap64 (by omega)]; omega⟩, H.kept⟩
   ·refine Sk ?_
    refine FW_seq ?_
    refine Sr ?_
    refine Mv ?_
    refine Ve ?_
    refine Qn ?_
    refine FW_condP rfl (fun hc30 => ?_) (fun hc30 => ?_)
    ·refine Sr ?_
     refine Mv ?_
     refine FL_val (Gives.negW (c := IntKind.i64.wrap (0 - a)) rfl rfl) rfl ?_
     refine Mv ?_
     refine Vn ?_
     refine Am ?_
     refine Am ?_
     refine Qn ?_
     refine Rs (Qfn_ret (hR := ?_))
     have h0 : a * b = -a := by rw [show b = -1 by omega]; simp
     rw [h0]
     have hf : fitsI (-a) = decide (a ≠ -9223372036854775808) := by unfold fitsI; rw [decide_eq_decide]; omega
     rw [hf]
     exact ⟨⟨IntKind.i64.wrap (0 - a), rfl, fun h => by have := of_decide_eq_true h; rw [wrap64 (by omega)]; omega⟩, H.kept⟩
    ·refine Sk ?_
     refine Sr ?_
     refine Mv ?_
     refine Mv ?_
     refine FL_val (Gives.mulW (c := IntKind.i64.wrap (a * b)) rfl rfl rfl) rfl ?_
     refine Am ?_
     refine Qn ?_
     refine FW_seq ?_
     refine FW_drawS rfl H (h := fun hok42 w44 H44 => ?_)
     refine FGmove hok42 0 (h := ?_)
     refine FGmove hok42 1 (h := ?_)
     refine FGmove hok42 2 (h := ?_)
     refine FGp hok42 3 rfl rfl (fun _ => (Gives.quoW (c := (IntKind.i64.wrap (a * b)).tdiv b) rfl rfl (by omega) (wrap64 (quo_fits (by rw [IntKind.wrap_i64]; omega) (by omega) (by omega))))) (by kernel_rfl) ?_
     refine FGmove hok42 4 (h := ?_)
     refine FGp hok42 5 rfl rfl (fun _ => (Gives.eql rfl rfl)) (by kernel_rfl) ?_
     refine FGp hok42 6 rfl rfl (fun _ => Gives.assign rfl) (by kernel_rfl) ?_
     refine FGp hok42 7 rfl rfl (fun _ => Gives.assign rfl) (by kernel_rfl) ?_
     refine FG_end hok42 (by kernel_rfl) ?_
     refine Qseq_normal ?_
     refine FW_ret (Qfn_ret (hR := ?_))
     have hpf := prod_fits (a := a) (b := b) (by omega) ⟨hb1, hb2⟩
     have hf : fitsI (a * b) = decide ((IntKind.i64.wrap (a * b)).tdiv b = a) := by rw [Bool.eq_iff_iff, decide_eq_true_eq]; exact hpf.symm
     refine ⟨⟨IntKind.i64.wrap (a * b), by rw [hf]; rfl, fun h => wrap64 (of_decide_eq_true h)⟩, H44.kept⟩
theorem logic_ok22 (k : Int) (a b : CellM) : Rets Tryz.prog 99 [I k, agg (cellCells a), agg (cellCells b)] w fun v w' => v = agg (cellCells (logicG k a b)) ∧ Kept noB w w' := by
 have H := Sep.start0 w
 obtain ⟨res, hres⟩ : ∃ res, res = logicG k a b := ⟨_, rfl⟩
 rw [← hres]
 unfold logicG at hres
 refine retsC3 Tryz.func99 rfl rfl rfl rfl ?_
 refine Sr ?_
 refine FL_box H (h := ?_)
 intro b1 w2 H2 k1
 refine FL_box H2 (h := ?_)
 intro b3 w4 H4 k3
 refine FL_alloc H4 (h := ?_)
 intro b5 w6 H6 k5
 refine Qn ?_
 refine FW_cut (fun z : Bool => [(0, I k), (4, .pointer (some ⟨b1, 0, none⟩)), (5, .pointer (some ⟨b3, 0, none⟩)), (6, .pointer (some ⟨b5, 0, none⟩)), (7, .bool z)]) (fun z w' => z = decide (a.null = true ∨ b.null = true) ∧ Sep w noB [blk b5 (cellCells cell0) 34, blk b3 (cellCells b) 34, blk b1 (cellCells a) 34] w') ?_ ?_
 ·refine FW_region ?_
  refine Vf ?_
  refine Ld H6 ?_
  refine Mv ?_
  refine FL_split (t := 12) rfl (fun hs11 => ?_) (fun hs11 => ?_)
  ·refine Of ?_
   refine Of ?_
   refine Pt ?_
   refine Am ?_
   refine FL_nil ?_
   exact Qcut_normal _ ⟨rfl, rfl, rfl, rfl, rfl, trivial⟩ ⟨by simp [*], H6⟩
  ·refine On ?_
   refine Vf ?_
   refine On ?_
   refine Ld H6 ?_
   refine Pf ?_
   refine Am ?_
   refine FL_nil ?_
   exact Qcut_normal _ ⟨rfl, rfl, rfl, rfl, rfl, trivial⟩ ⟨by simp [*], H6⟩
 ·rintro nn τ w21 ⟨hnn, H21⟩
  simp only [upds, like, upd_ds, und_ds]
  refine FW_cut (fun z : Bool => [(0, I k), (4, .pointer (some ⟨b1, 0, none⟩)), (5, .pointer (some ⟨b3, 0, none⟩)), (6, .pointer (some ⟨b5, 0, none⟩)), (7, .bool nn), (8, .bool z)]) (fun z w' => z = decide (a.n = 1 ∨ b.n = 1) ∧ Sep w noB [blk b5 (cellCells cell0) 34, blk b3 (cellCells b) 34, blk b1 (cellCells a) 34] w') ?_ ?_
  ·refine FW_region ?_
   refine Vf ?_
   refine Ld H21 ?_
   refine Ve ?_
   refine Mv ?_
   refine FL_splitP (t := 19) rfl (fun hs27 => ?_) (fun hs27 => ?_)
   ·refine Of ?_
    refine Of ?_
    refine Of ?_
    refine Pt ?_
    refine Am ?_
    refine FL_nil ?_
    exact Qcut_normal _ ⟨rfl, rfl, rfl, rfl, rfl, rfl, trivial⟩ ⟨by simp [*], H21⟩
   ·refine On ?_
    refine Vf ?_
    refine On ?_
    refine Ld H21 ?_
    refine On ?_
    refine Ve ?_
    refine Pf ?_
    refine Am ?_
    refine FL_nil ?_
    exact Qcut_normal _ ⟨rfl, rfl, rfl, rfl, rfl, rfl, trivial⟩ ⟨by simp [*], H21⟩
  ·rintro n1 τ w38 ⟨hn1, H38⟩
   simp only [upds, like, upd_ds]
   refine FW_cut (fun z : Bool => [(0, I k), (4, .pointer (some ⟨b1, 0, none⟩)), (5, .pointer (some ⟨b3, 0, none⟩)), (6, .pointer (some ⟨b5, 0, none⟩)), (7, .bool nn), (8, .bool n1), (9, .bool z)]) (fun z w' => z = decide ((a.null = false ∧ a.n = 0) ∨ (b.null = false ∧ b.n = 0)) ∧ Sep w noB [blk b5 (cellCells cell0) 34, blk b3 (cellCells b) 34, blk b1 (cellCells a) 34] w') ?_ ?_
   ·refine FW_region ?_
    refine Vf ?_
    refine Ld H38 ?_
    refine FL_val (Gives.not rfl) rfl ?_
    refine Mv ?_
    refine FL_split (t := 27) rfl (fun hs44 => ?_) (fun hs44 => ?_)
    ·refine On ?_
     refine Vf ?_
     refine On ?_
     refine Ld H38 ?_
     refine On ?_
     refine Ve ?_
     refine Pt ?_
     refine Mv ?_
     refine FL_splitP (t := 32) rfl (fun hs50 => ?_) (fun hs50 => ?_)
     ·refine Of ?_
      refine Of ?_
      refine Of ?_
      refine Of ?_
      refine Ou ?_
      refine Ou ?_
      refine Ou ?_
      refine Of ?_
      refine Pt ?_
      refine Am ?_
      refine FL_nil ?_
      exact Qcut_normal _ ⟨rfl, rfl, rfl, rfl, rfl, rfl, rfl, trivial⟩ ⟨by first | (simp [*]; done) | (simp_all; done), H38⟩
     ·refine On ?_
      refine Vf ?_
      refine On ?_
      refine Ld H38 ?_
      refine On ?_
      refine FL_val (Gives.not rfl) rfl ?_
      refine On ?_
      refine Mv ?_
      refine FL_split (t := 36) rfl (fun hs58 => ?_) (fun hs58 => ?_)
      ·refine On ?_
       refine Vf ?_
       refine On ?_
       refine Ld H38 ?_
       refine On ?_
       refine Ve ?_
       refine On ?_
       refine Pt ?_
       refine Pf ?_
       refine Am ?_
       refine FL_nil ?_
       exact Qcut_normal _ ⟨rfl, rfl, rfl, rfl, rfl, rfl, rfl, trivial⟩ ⟨by first | (simp [*]; done) | (simp_all; done), H38⟩
      ·refine Of ?_
       refine Of ?_
       refine Of ?_
       refine On ?_
       refine Pf ?_
       refine Pf ?_
       refine Am ?_
       refine FL_nil ?_
       exact Qcut_normal _ ⟨rfl, rfl, rfl, rfl, rfl, rfl, rfl, trivial⟩ ⟨by first | (simp [*]; done) | (simp_all; done), H38⟩
    ·refine Of ?_
     refine Of ?_
     refine Of ?_
     refine Pf ?_
     refine Mv ?_
     refine On ?_
     refine Vf ?_
     refine On ?_
     refine Ld H38 ?_
     refine On ?_
     refine FL_val (Gives.not rfl) rfl ?_
     refine On ?_
     refine Mv ?_
     refine FL_split (t := 36) rfl (fun hs76 => ?_) (fun hs76 => ?_)
     ·refine On ?_
      refine Vf ?_
      refine On ?_
      refine Ld H38 ?_
      refine On ?_
      refine Ve ?_
      refine On ?_
      refine Pt ?_
      refine Pf ?_
      refine Am ?_
      refine FL_nil ?_
      exact Qcut_normal _ ⟨rfl, rfl, rfl, rfl, rfl, rfl, rfl, trivial⟩ ⟨by first | (simp [*]; done) | (simp_all; done), H38⟩
     ·refine Of ?_
      refine Of ?_
      refine Of ?_
      refine On ?_
      refine Pf ?_
      refine Pf ?_
      refine Am ?_
      refine FL_nil ?_
      exact Qcut_normal _ ⟨rfl, rfl, rfl, rfl, rfl, rfl, rfl, trivial⟩ ⟨by first | (simp [*]; done) | (simp_all; done), H38⟩
   ·rintro n0 τ w89 ⟨hn0, H89⟩
    have hres' : res = if k = 13 ∧ n0 = true then flagC false else if k = 14 ∧ n1 = true then flagC true else if nn = true then cellNull else if k = 15 then flagC (decide (a.n = 0)) else flagC (decide (k = 13)) := by rw [hres, hn0, hn1, hnn]; simp only [decide_eq_true_eq]
    clear hres hn0 hn1 hnn
    simp only [upds, like, upd_ds]
    refine FW_seq ?_
    refine FW_block ?_
    refine Sr ?_
    refine Mv ?_
    refine Ve ?_
    refine Mv ?_
    refine FL_splitP (t := 45) rfl (fun hs93 => ?_) (fun hs93 => ?_)
    ·refine On ?_
     refine Mv ?_
     refine Pt ?_
     refine Am ?_
     refine Qn ?_
     refine FW_cond rfl (fun hc97 => ?_) (fun hc97 => ?_)
     ·refine Sr ?_
      refine FL_callQ H89 (truth_ok22 _) (h := fun w99 H99 k98 => ?_)
      refine FL_storeAll H99 (h := ?_)
      intro w101 H101
      refine Qn ?_
      refine Rb (QfnC_ret (h := ?_))
      refine ⟨_, resC1 H101, ?_, H101.kept⟩
      show agg (cellCells _) = agg (cellCells res)
      (rw [hres']; simp [*])
     ·refine Sr ?_
      refine Mv ?_
      refine Ve ?_
      refine Mv ?_
      refine FL_splitP (t := 52) rfl (fun hs106 => ?_) (fun hs106 => ?_)
      ·refine On ?_
       refine Mv ?_
       refine Pt ?_
       refine Am ?_
       refine Qn ?_
       refine FW_cond rfl (fun hc110 => ?_) (fun hc110 => ?_)
       ·refine Sr ?_
        refine FL_callQ H89 (truth_ok22 _) (h := fun w112 H112 k111 => ?_)
        refine FL_storeAll H112 (h := ?_)
        intro w114 H114
        refine Qn ?_
        refine Rb (QfnC_ret (h := ?_))
        refine ⟨_, resC1 H114, ?_, H114.kept⟩
        show agg (cellCells _) = agg (cellCells res)
        (exfalso; omega)
       ·refine Sr ?_
        refine Mv ?_
        refine Am ?_
        refine Qn ?_
        refine FW_cond rfl (fun hc118 => ?_) (fun hc118 => ?_)
        ·refine Sr ?_
         refine FL_val (Gives.build (out := cellCells cellNull) (Fills.one rfl rfl rfl (by simp) rfl Fills.nil)) rfl ?_
         refine FL_storeAll H89 (h := ?_)
         intro w121 H121
         refine Qn ?_
         refine Rb (QfnC_ret (h := ?_))
         refine ⟨_, resC1 H121, ?_, H121.kept⟩
         show agg (cellCells _) = agg (cellCells res)
         (exfalso; omega)
        ·refine Sr ?_
         refine Mv ?_
         refine Ve ?_
         refine Am ?_
         refine Qn ?_
         refine FW_condP rfl (fun hc126 => ?_) (fun hc126 => ?_)
         ·refine Sr ?_
          refine Vf ?_
          refine Ld H89 ?_
          refine Ve ?_
          refine FL_callQ H89 (truth_ok22 _) (h := fun w131 H131 k130 => ?_)
          refine FL_storeAll H131 (h := ?_)
          intro w133 H133
          refine Qn ?_
          refine Rb (QfnC_ret (h := ?_))
          refine ⟨_, resC1 H133, ?_, H133.kept⟩
          show agg (cellCells _) = agg (cellCells res)
          (exfalso; omega)
         ·refine FW_skip (Qblk_normal (Qseq_normal ?_))
          refine Sr ?_
          refine Mv ?_
          refine Ve ?_
          refine FL_callQ H89 (truth_ok22 _) (h := fun w138 H138 k137 => ?_)
          refine FL_storeAll H138 (h := ?_)
          intro w140 H140
          refine Qn ?_
          refine FW_ret (QfnC_ret (h := ?_))
          refine ⟨_, resC1 H140, ?_, H140.kept⟩
          show agg (cellCells _) = agg (cellCells res)
          (exfalso; omega)
      ·refine Of ?_
       refine Pf ?_
       refine Am ?_
       refine Qn ?_
       refine FW_cond_false rfl ?_
       refine Sr ?_
       refine Mv ?_
       refine Am ?_
       refine Qn ?_
       refine FW_cond rfl (fun hc146 => ?_) (fun hc146 => ?_)
       ·refine Sr ?_
        refine FL_val (Gives.build (out := cellCells cellNull) (Fills.one rfl rfl rfl (by simp) rfl Fills.nil)) rfl ?_
        refine FL_storeAll H89 (h := ?_)
        intro w149 H149
        refine Qn ?_
        refine Rb (QfnC_ret (h := ?_))
        refine ⟨_, resC1 H149, ?_, H149.kept⟩
        show agg (cellCells _) = agg (cellCells res)
        (rw [hres']; simp [*])
       ·refine Sr ?_
        refine Mv ?_
        refine Ve ?_
        refine Am ?_
        refine Qn ?_
        refine FW_condP rfl (fun hc154 => ?_) (fun hc154 => ?_)
        ·refine Sr ?_
         refine Vf ?_
         refine Ld H89 ?_
         refine Ve ?_
         refine FL_callQ H89 (truth_ok22 _) (h := fun w159 H159 k158 => ?_)
         refine FL_storeAll H159 (h := ?_)
         intro w161 H161
         refine Qn ?_
         refine Rb (QfnC_ret (h := ?_))
         refine ⟨_, resC1 H161, ?_, H161.kept⟩
         show agg (cellCells _) = agg (cellCells res)
         (exfalso; omega)
        ·refine FW_skip (Qblk_normal (Qseq_normal ?_))
         refine Sr ?_
         refine Mv ?_
         refine Ve ?_
         refine FL_callQ H89 (truth_ok22 _) (h := fun w166 H166 k165 => ?_)
         refine FL_storeAll H166 (h := ?_)
         intro w168 H168
         refine Qn ?_
         refine FW_ret (QfnC_ret (h := ?_))
         refine ⟨_, resC1 H168, ?_, H168.kept⟩
         show agg (cellCells _) = agg (cellCells res)
         (rw [hres']; simp [*])
    ·refine Of ?_
     refine Pf ?_
     refine Am ?_
     refine Qn ?_
     refine FW_cond_false rfl ?_
     refine Sr ?_
     refine Mv ?_
     refine Ve ?_
     refine Mv ?_
     refine FL_splitP (t := 52) rfl (fun hs175 => ?_) (fun hs175 => ?_)
     ·refine On ?_
      refine Mv ?_
      refine Pt ?_
      refine Am ?_
      refine Qn ?_
      refine FW_cond rfl (fun hc179 => ?_) (fun hc179 => ?_)
      ·refine Sr ?_
       refine FL_callQ H89 (truth_ok22 _) (h := fun w181 H181 k180 => ?_)
       refine FL_storeAll H181 (h := ?_)
       intro w183 H183
       refine Qn ?_
       refine Rb (QfnC_ret (h := ?_))
       refine ⟨_, resC1 H183, ?_, H183.kept⟩
       show agg (cellCells _) = agg (cellCells res)
       (rw [hres']; simp [*])
      ·refine Sr ?_
       refine Mv ?_
       refine Am ?_
       refine Qn ?_
       refine FW_cond rfl (fun hc187 => ?_) (fun hc187 => ?_)
       ·refine Sr ?_
        refine FL_val (Gives.build (out := cellCells cellNull) (Fills.one rfl rfl rfl (by simp) rfl Fills.nil)) rfl ?_
        refine FL_storeAll H89 (h := ?_)
        intro w190 H190
        refine Qn ?_
        refine Rb (QfnC_ret (h := ?_))
        refine ⟨_, resC1 H190, ?_, H190.kept⟩
        show agg (cellCells _) = agg (cellCells res)
        (rw [hres']; simp [*])
       ·refine Sr ?_
        refine Mv ?_
        refine Ve ?_
        refine Am ?_
        refine Qn ?_
        refine FW_condP rfl (fun hc195 => ?_) (fun hc195 => ?_)
        ·refine Sr ?_
         refine Vf ?_
         refine Ld H89 ?_
         refine Ve ?_
         refine FL_callQ H89 (truth_ok22 _) (h := fun w200 H200 k199 => ?_)
         refine FL_storeAll H200 (h := ?_)
         intro w202 H202
         refine Qn ?_
         refine Rb (QfnC_ret (h := ?_))
         refine ⟨_, resC1 H202, ?_, H202.kept⟩
         show agg (cellCells _) = agg (cellCells res)
         (exfalso; omega)
        ·refine FW_skip (Qblk_normal (Qseq_normal ?_))
         refine Sr ?_
         refine Mv ?_
         refine Ve ?_
         refine FL_callQ H89 (truth_ok22 _) (h := fun w207 H207 k206 => ?_)
         refine FL_storeAll H207 (h := ?_)
         intro w209 H209
         refine Qn ?_
         refine FW_ret (QfnC_ret (h := ?_))
         refine ⟨_, resC1 H209, ?_, H209.kept⟩
         show agg (cellCells _) = agg (cellCells res)
         (rw [hres']; simp [*])
     ·refine Of ?_
      refine Pf ?_
      refine Am ?_
      refine Qn ?_
      refine FW_cond_false rfl ?_
      refine Sr ?_
      refine Mv ?_
      refine Am ?_
      refine Qn ?_
      refine FW_cond rfl (fun hc215 => ?_) (fun hc215 => ?_)
      ·refine Sr ?_
       refine FL_val (Gives.build (out := cellCells cellNull) (Fills.one rfl rfl rfl (by simp) rfl Fills.nil)) rfl ?_
       refine FL_storeAll H89 (h := ?_)
       intro w218 H218
       refine Qn ?_
       refine Rb (QfnC_ret (h := ?_))
       refine ⟨_, resC1 H218, ?_, H218.kept⟩
       show agg (cellCells _) = agg (cellCells res)
       (rw [hres']; simp [*])
      ·refine Sr ?_
       refine Mv ?_
       refine Ve ?_
       refine Am ?_
       refine Qn ?_
       refine FW_condP rfl (fun hc223 => ?_) (fun hc223 => ?_)
       ·refine Sr ?_
        refine Vf ?_
        refine Ld H89 ?_
        refine Ve ?_
        refine FL_callQ H89 (truth_ok22 _) (h := fun w228 H228 k227 => ?_)
        refine FL_storeAll H228 (h := ?_)
        intro w230 H230
        refine Qn ?_
        refine Rb (QfnC_ret (h := ?_))
        refine ⟨_, resC1 H230, ?_, H230.kept⟩
        show agg (cellCells _) = agg (cellCells res)
        (rw [hres']; simp [*])
       ·refine FW_skip (Qblk_normal (Qseq_normal ?_))
        refine Sr ?_
        refine Mv ?_
        refine Ve ?_
        refine FL_callQ H89 (truth_ok22 _) (h := fun w235 H235 k234 => ?_)
        refine FL_storeAll H235 (h := ?_)
        intro w237 H237
        refine Qn ?_
        refine FW_ret (QfnC_ret (h := ?_))
        refine ⟨_, resC1 H237, ?_, H237.kept⟩
        show agg (cellCells _) = agg (cellCells res)
        (rw [hres']; simp [*])
end
end Go.Proofs.YtmkaahkbhdlniaaGreatDoor
/-
 The document's Made, walked.
-/
namespace Go.Proofs.YtmkaahkbhdlniaaGreatDoor
open Go Go.Mw Go.Lib
set_option maxRecDepth 4000
def numG (n : Int) : Option CellM := if fitsI n = true then some ⟨false, n, []⟩ else none
/-- What a step makes of two cells, as the document does it. -/
def madeG (k : Int) (a b : CellM) : Option CellM :=
 if k = 13 ∨ k = 14 ∨ k = 15 then some (logicG k a b)
 else if k = 16 then some (flagC a.null)
 else if k = 17 then some (if a.null = true then b else a)
 else if a.null = true ∨ b.null = true then some cellNull
 else if k = 7 then numG (a.n + b.n)
 else if k = 8 then numG (a.n - b.n)
 else if k = 9 then numG (a.n * b.n)
 else if k = 10 then numG (-a.n)
 else if k = 11 then some (flagC (decide (a = b)))
 else if k = 12 then some (flagC (decide (cmpC a b < 0)))
 else some ⟨false, a.s.length, []⟩
theorem made_outC {res : Option CellM} {c : CellM} {ok : Bool} (h1 : ok = res.isSome) (h2 : ∀ y, res = some y → c = y) : ∃ t', Value.tuple #[agg (cellCells c), .bool ok] = .tuple #[agg (cellCells t'), .bool res.isSome] ∧ ∀ x, res = some x → t' = x :=
 ⟨c, by rw [h1], h2⟩
theorem made_outS {res : Option CellM} {c : CellM} (h : res = some c) : ∃ t', Value.tuple #[agg (cellCells c), .bool true] = .tuple #[agg (cellCells t'), .bool res.isSome] ∧ ∀ x, res = some x → t' = x :=
 made_outC (by rw [h]; rfl) (fun y hy => by rw [h] at hy; injection hy)
theorem made_outN {res : Option CellM} {n c : Int} {ok : Bool} (h : res = numG n) (h1 : ok = fitsI n) (h2 : fitsI n = true → c = n) : ∃ t', Value.tuple #[agg (cellCells ⟨false, c, []⟩), .bool ok] = .tuple #[agg (cellCells t'), .bool res.isSome] ∧ ∀ x, res = some x → t' = x := by
 subst h h1
 unfold numG
 cases hf : fitsI n with
 | false => exact ⟨_, rfl, fun y hy => by cases hy⟩
 | true => exact ⟨_, rfl, fun y hy => by rw [h2 hf]; injection hy⟩
attribute [local irreducible] cmpC
section
variable {w : World}
theorem madeC_ok22 (k : Int) (a b : CellM) (ha : fits a.n) (hb : fits b.n) (hs : a.s.length ≤ 9223372036854775807) : Rets Tryz.prog 57 [I k, agg (cellCells a), agg (cellCells b)] w fun v w' => (∃ c, v = .tuple #[agg (cellCells c), .bool (madeG k a b).isSome] ∧ ∀ y, madeG k a b = some y → c = y) ∧ Kept noB w w' := by
 have H := Sep.start0 w
 have ha' := ha
 obtain ⟨ha1, ha2⟩ := ha
 obtain ⟨hb1, hb2⟩ := hb
 obtain ⟨res, hres⟩ : ∃ res, res = madeG k a b := ⟨_, rfl⟩
 rw [← hres]
 unfold madeG at hres
 refine retsC3 Tryz.func57 rfl rfl rfl rfl ?_
 refine Sr ?_
 refine FL_box H (h := ?_)
 intro b1 w2 H2 k1
 refine FL_box H2 (h := ?_)
 intro b3 w4 H4 k3
 refine FL_alloc H4 (h := ?_)
 intro b5 w6 H6 k5
 refine Am ?_
 refine Qn ?_
 refine FW_seq ?_
 refine Sr ?_
 refine Mv ?_
 refine Qn ?_
 refine FW_block ?_
 refine FW_seq ?_
 refine Sr ?_
 refine Ve ?_
 refine Am ?_
 refine Qn ?_
 refine FW_condP rfl (fun hc11 => ?_) (fun hc11 => ?_)
 ·refine Sk ?_
  refine FW_cond_true (congrArg Value.bool (decide_eq_true hc11)) ?_
  refine Sr ?_
  refine Mv ?_
  refine FL_loadAll H6 (h := ?_)
  refine FL_loadAll H6 (h := ?_)
  refine FL_callQ H6 (logic_ok22 k a b) (h := fun w16 H16 k15 => ?_)
  refine FL_storeAll H16 (h := ?_)
  intro w18 H18
  refine Am ?_
  refine Qn ?_
  refine Rb (QfnC_ret (h := ?_))
  exact ⟨_, resC2 H18, made_outS (by rw [hres, if_pos (by omega)]), H18.kept⟩
 ·refine Sr ?_
  refine Ve ?_
  refine Am ?_
  refine Qn ?_
  refine FW_condP rfl (fun hc23 => ?_) (fun hc23 => ?_)
  ·refine Sk ?_
   refine FW_cond_true (congrArg Value.bool (decide_eq_true hc23)) ?_
   refine Sr ?_
   refine Mv ?_
   refine FL_loadAll H6 (h := ?_)
   refine FL_loadAll H6 (h := ?_)
   refine FL_callQ H6 (logic_ok22 k a b) (h := fun w28 H28 k27 => ?_)
   refine FL_storeAll H28 (h := ?_)
   intro w30 H30
   refine Am ?_
   refine Qn ?_
   refine Rb (QfnC_ret (h := ?_))
   exact ⟨_, resC2 H30, made_outS (by rw [hres, if_pos (by omega)]), H30.kept⟩
  ·refine FW_region ?_
   refine Ve ?_
   refine Am ?_
   refine Qn ?_
   refine FW_condP rfl (fun hc35 => ?_) (fun hc35 => ?_)
   ·refine Sr ?_
    refine Mv ?_
    refine FL_loadAll H6 (h := ?_)
    refine FL_loadAll H6 (h := ?_)
    refine FL_callQ H6 (logic_ok22 k a b) (h := fun w40 H40 k39 => ?_)
    refine FL_storeAll H40 (h := ?_)
    intro w42 H42
    refine Am ?_
    refine Qn ?_
    refine Rb (QfnC_ret (h := ?_))
    exact ⟨_, resC2 H42, made_outS (by rw [hres, if_pos (by omega)]), H42.kept⟩
   ·refine Sr ?_
    refine Ve ?_
    refine Am ?_
    refine Qn ?_
    refine FW_condP rfl (fun hc47 => ?_) (fun hc47 => ?_)
    ·refine Sr ?_
     refine Vf ?_
     refine Ld H6 ?_
     refine FL_callQ H6 (truth_ok22 _) (h := fun w51 H51 k50 => ?_)
     refine FL_storeAll H51 (h := ?_)
     intro w53 H53
     refine Am ?_
     refine Qn ?_
     refine Rb (QfnC_ret (h := ?_))
     exact ⟨_, resC2 H53, made_outS (by rw [hres, if_neg (by omega), if_pos (by omega)]), H53.kept⟩
    ·refine Sr ?_
     refine Ve ?_
     refine Am ?_
     refine Qn ?_
     refine FW_condP rfl (fun hc58 => ?_) (fun hc58 => ?_)
     ·refine FW_seq ?_
      refine Sr ?_
      refine Vf ?_
      refine Ld H6 ?_
      refine Qn ?_
      refine FW_cond rfl (fun hc61 => ?_) (fun hc61 => ?_)
      ·refine Sr ?_
       refine FL_loadAll H6 (h := ?_)
       refine FL_storeAll H6 (h := ?_)
       intro w64 H64
       refine Am ?_
       refine Qn ?_
       refine Rs (Qblk_ret (Qseq_ret (QfnC_ret (h := ?_))))
       exact ⟨_, resC2 H64, made_outS (by rw [hres, if_neg (by omega), if_neg (by omega), if_pos (by omega), if_pos (by assumption)]), H64.kept⟩
      ·refine Sk ?_
       refine Sr ?_
       refine FL_loadAll H6 (h := ?_)
       refine FL_storeAll H6 (h := ?_)
       intro w69 H69
       refine Am ?_
       refine Qn ?_
       refine Rb (QfnC_ret (h := ?_))
       exact ⟨_, resC2 H69, made_outS (by rw [hres, if_neg (by omega), if_neg (by omega), if_pos (by omega), if_neg (by simp [*])]), H69.kept⟩
     ·refine FW_skip (Qblk_normal (Qseq_normal ?_))
      refine FW_seq ?_
      refine Sr ?_
      refine Vf ?_
      refine Ld H6 ?_
      refine Mv ?_
      refine FL_split (t := 32) rfl (fun hs75 => ?_) (fun hs75 => ?_)
      ·refine Of ?_
       refine Of ?_
       refine Pt ?_
       refine Qn ?_
       refine FW_cond_true rfl ?_
       refine Sr ?_
       refine FL_val (Gives.build (out := cellCells cellNull) (Fills.one rfl rfl rfl (by simp) rfl Fills.nil)) rfl ?_
       refine FL_storeAll H6 (h := ?_)
       intro w79 H79
       refine Am ?_
       refine Qn ?_
       refine Rs (QfnC_ret (h := ?_))
       exact ⟨_, resC2 H79, made_outS (by rw [hres, if_neg (by omega), if_neg (by omega), if_neg (by omega), if_pos (by simp [*])]), H79.kept⟩
      ·refine On ?_
       refine Vf ?_
       refine On ?_
       refine Ld H6 ?_
       refine Pf ?_
       refine Qn ?_
       refine FW_cond rfl (fun hc85 => ?_) (fun hc85 => ?_)
       ·refine Sr ?_
        refine FL_val (Gives.build (out := cellCells cellNull) (Fills.one rfl rfl rfl (by simp) rfl Fills.nil)) rfl ?_
        refine FL_storeAll H6 (h := ?_)
        intro w88 H88
        refine Am ?_
        refine Qn ?_
        refine Rs (QfnC_ret (h := ?_))
        exact ⟨_, resC2 H88, made_outS (by rw [hres, if_neg (by omega), if_neg (by omega), if_neg (by omega), if_pos (by simp [*])]), H88.kept⟩
       ·have hnn : ¬ (a.null = true ∨ b.null = true) := by simp [*]
        rw [if_neg (by omega), if_neg (by omega), if_neg (by omega), if_neg hnn] at hres
        refine Sk ?_
        refine Sr ?_
        refine Am ?_
        refine Am ?_
        refine Qn ?_
        refine FW_seq ?_
        refine Sr ?_
        refine Mv ?_
        refine Qn ?_
        refine FW_block ?_
        refine Sr ?_
        refine Ve ?_
        refine Am ?_
        refine Qn ?_
        refine FW_condP rfl (fun hc97 => ?_) (fun hc97 => ?_)
        ·rw [if_pos hc97] at hres
         refine FW_region ?_
         refine Vf ?_
         refine Ld H6 ?_
         refine Vf ?_
         refine Ld H6 ?_
         refine FL_callS (sum_ok22 a.n b.n ⟨ha1, ha2⟩ ⟨hb1, hb2⟩) (h := ?_)
         refine Mv ?_
         refine Vx ?_
         refine Vx ?_
         refine Am ?_
         refine Am ?_
         refine FL_nil (Qblk_normal (Qseq_normal ?_))
         refine Sr ?_
         refine Mv ?_
         refine FL_val (Gives.build (out := cellCells ⟨false, if fitsI (a.n + b.n) = true then a.n + b.n else 0, []⟩) (Fills.one rfl rfl rfl (by simp) rfl Fills.nil)) rfl ?_
         refine Mv ?_
         refine FL_storeAll H6 (h := ?_)
         intro w113 H113
         refine Am ?_
         refine Qn ?_
         refine FW_ret (QfnC_ret (h := ?_))
         first
         | exact ⟨_, resC2 H113, made_outN (n := a.n + b.n) hres rfl (fun h => if_pos h), H113.kept⟩
         | exact ⟨_, resC2 H113, made_outN (n := a.n - b.n) hres (by rw [Int.sub_eq_add_neg]) (fun h => by rw [Int.sub_eq_add_neg] at h ⊢; exact if_pos h), H113.kept⟩
         | exact ⟨_, resC2 H113, made_outN (n := a.n * b.n) hres rfl hcp, H113.kept⟩
         | exact ⟨_, resC2 H113, made_outN (n := -a.n) hres (by rw [show -a.n = a.n * -1 by omega]) (fun h => by rw [show -a.n = a.n * -1 by omega] at h ⊢; exact hcp h), H113.kept⟩
         | exact ⟨_, resC2 H113, made_outS hres, H113.kept⟩
        ·rw [if_neg hc97] at hres
         refine Sr ?_
         refine Ve ?_
         refine Am ?_
         refine Qn ?_
         refine FW_condP rfl (fun hc119 => ?_) (fun hc119 => ?_)
         ·rw [if_pos hc119] at hres
          refine FW_seq ?_
          refine Sr ?_
          refine Vf ?_
          refine Ld H6 ?_
          refine Ve ?_
          refine Qn ?_
          refine FW_condP rfl (fun hc124 => ?_) (fun hc124 => ?_)
          ·refine FW_seq ?_
           refine FW_drawS rfl H6 (h := fun hok125 w127 H127 => ?_)
           refine FGp hok125 0 rfl rfl (fun _ => (Gives.field0 rfl)) (by kernel_rfl) ?_
           refine FGload hok125 1 H127 (h := ?_)
           refine FGp hok125 2 rfl rfl (fun _ => (Gives.addW (c := IntKind.i64.wrap (a.n + 1)) rfl rfl rfl)) (by kernel_rfl) ?_
           refine FGp hok125 3 rfl rfl (fun _ => (Gives.addW (c := IntKind.i64.wrap (IntKind.i64.wrap (a.n + 1) + 9223372036854775807)) rfl rfl rfl)) (by kernel_rfl) ?_
           refine FGp hok125 4 rfl rfl (fun _ => (Gives.build (out := cellCells ⟨false, IntKind.i64.wrap (IntKind.i64.wrap (a.n + 1) + 9223372036854775807), []⟩) (Fills.one rfl rfl rfl (by simp) rfl Fills.nil))) (by kernel_rfl) ?_
           refine FGp hok125 5 rfl rfl (fun _ => (Gives.field0 rfl)) (by kernel_rfl) ?_
           refine FGload hok125 6 H127 (h := ?_)
           refine FGp hok125 7 rfl rfl (fun _ => (Gives.lss rfl rfl)) (by kernel_rfl) ?_
           refine FGstoreAll hok125 8 [(7, true), (6, false), (5, true)] H127 (h := fun w137 H137 => ⟨Stab_pure (Stab_load H137 (h := Stab_pure (Stab_nil))), ?_⟩)
           refine FGp hok125 9 rfl rfl (fun _ => Gives.assign rfl) (by kernel_rfl) ?_
           refine FG_end hok125 (by kernel_rfl) ?_
           refine Qseq_normal ?_
           refine Rs (Qblk_ret (Qseq_ret (QfnC_ret (h := ?_))))
           exact ⟨_, resC2 H137, made_outN (n := a.n - b.n) hres (by unfold fitsI; rw [decide_eq_decide]; omega) (fun h => by have := of_decide_eq_true h; rw [IntKind.wrap_i64, IntKind.wrap_i64]; omega), H137.kept⟩
          ·refine Sk ?_
           refine FW_region ?_
           refine Vf ?_
           refine Ld H6 ?_
           refine Vf ?_
           refine Ld H6 ?_
           refine FL_val (Gives.negW (c := -b.n) rfl (by rw [wrap64 (by omega)]; omega)) rfl ?_
           refine FL_callS (sum_ok22 a.n (-b.n) ⟨ha1, ha2⟩ ⟨by omega, by omega⟩) (h := ?_)
           refine Mv ?_
           refine Vx ?_
           refine Vx ?_
           refine Am ?_
           refine Am ?_
           refine FL_nil (Qblk_normal (Qseq_normal ?_))
           refine Sr ?_
           refine Mv ?_
           refine FL_val (Gives.build (out := cellCells ⟨false, if fitsI (a.n + -b.n) = true then a.n + -b.n else 0, []⟩) (Fills.one rfl rfl rfl (by simp) rfl Fills.nil)) rfl ?_
           refine Mv ?_
           refine FL_storeAll H6 (h := ?_)
           intro w155 H155
           refine Am ?_
           refine Qn ?_
           refine FW_ret (QfnC_ret (h := ?_))
           first
           | exact ⟨_, resC2 H155, made_outN (n := a.n + b.n) hres rfl (fun h => if_pos h), H155.kept⟩
           | exact ⟨_, resC2 H155, made_outN (n := a.n - b.n) hres (by rw [Int.sub_eq_add_neg]) (fun h => by rw [Int.sub_eq_add_neg] at h ⊢; exact if_pos h), H155.kept⟩
           | exact ⟨_, resC2 H155, made_outN (n := a.n * b.n) hres rfl hcp, H155.kept⟩
           | exact ⟨_, resC2 H155, made_outN (n := -a.n) hres (by rw [show -a.n = a.n * -1 by omega]) (fun h => by rw [show -a.n = a.n * -1 by omega] at h ⊢; exact hcp h), H155.kept⟩
           | exact ⟨_, resC2 H155, made_outS hres, H155.kept⟩
         ·rw [if_neg hc119] at hres
          refine Sr ?_
          refine Ve ?_
          refine Am ?_
          refine Qn ?_
          refine FW_condP rfl (fun hc161 => ?_) (fun hc161 => ?_)
          ·rw [if_pos hc161] at hres
           refine FW_region ?_
           refine Vf ?_
           refine Ld H6 ?_
           refine Vf ?_
           refine Ld H6 ?_
           refine FL_call (product_ok22 a.n b.n ha' ⟨hb1, hb2⟩) rfl rfl (fun v' w168 hv => ?_)
           obtain ⟨⟨cp, rfl, hcp⟩, hkk⟩ := hv
           have H168 := H6.keep hkk
           refine Mv ?_
           refine Vx ?_
           refine Vx ?_
           refine Am ?_
           refine Am ?_
           refine FL_nil (Qblk_normal (Qseq_normal ?_))
           refine Sr ?_
           refine Mv ?_
           refine FL_val (Gives.build (out := cellCells ⟨false, cp, []⟩) (Fills.one rfl rfl rfl (by simp) rfl Fills.nil)) rfl ?_
           refine Mv ?_
           refine FL_storeAll H168 (h := ?_)
           intro w178 H178
           refine Am ?_
           refine Qn ?_
           refine FW_ret (QfnC_ret (h := ?_))
           first
           | exact ⟨_, resC2 H178, made_outN (n := a.n + b.n) hres rfl (fun h => if_pos h), H178.kept⟩
           | exact ⟨_, resC2 H178, made_outN (n := a.n - b.n) hres (by rw [Int.sub_eq_add_neg]) (fun h => by rw [Int.sub_eq_add_neg] at h ⊢; exact if_pos h), H178.kept⟩
           | exact ⟨_, resC2 H178, made_outN (n := a.n * b.n) hres rfl hcp, H178.kept⟩
           | exact ⟨_, resC2 H178, made_outN (n := -a.n) hres (by rw [show -a.n = a.n * -1 by omega]) (fun h => by rw [show -a.n = a.n * -1 by omega] at h ⊢; exact hcp h), H178.kept⟩
           | exact ⟨_, resC2 H178, made_outS hres, H178.kept⟩
          ·rw [if_neg hc161] at hres
           refine Sr ?_
           refine Ve ?_
           refine Am ?_
           refine Qn ?_
           refine FW_condP rfl (fun hc184 => ?_) (fun hc184 => ?_)
           ·rw [if_pos hc184] at hres
            refine FW_region ?_
            refine Vf ?_
            refine Ld H6 ?_
            refine FL_call (product_ok22 a.n (-1) ha' ⟨by decide, by decide⟩) rfl rfl (fun v' w189 hv => ?_)
            obtain ⟨⟨cp, rfl, hcp⟩, hkk⟩ := hv
            have H189 := H6.keep hkk
            refine Mv ?_
            refine Vx ?_
            refine Vx ?_
            refine Am ?_
            refine Am ?_
            refine FL_nil (Qblk_normal (Qseq_normal ?_))
            refine Sr ?_
            refine Mv ?_
            refine FL_val (Gives.build (out := cellCells ⟨false, cp, []⟩) (Fills.one rfl rfl rfl (by simp) rfl Fills.nil)) rfl ?_
            refine Mv ?_
            refine FL_storeAll H189 (h := ?_)
            intro w199 H199
            refine Am ?_
            refine Qn ?_
            refine FW_ret (QfnC_ret (h := ?_))
            first
            | exact ⟨_, resC2 H199, made_outN (n := a.n + b.n) hres rfl (fun h => if_pos h), H199.kept⟩
            | exact ⟨_, resC2 H199, made_outN (n := a.n - b.n) hres (by rw [Int.sub_eq_add_neg]) (fun h => by rw [Int.sub_eq_add_neg] at h ⊢; exact if_pos h), H199.kept⟩
            | exact ⟨_, resC2 H199, made_outN (n := a.n * b.n) hres rfl hcp, H199.kept⟩
            | exact ⟨_, resC2 H199, made_outN (n := -a.n) hres (by rw [show -a.n = a.n * -1 by omega]) (fun h => by rw [show -a.n = a.n * -1 by omega] at h ⊢; exact hcp h), H199.kept⟩
            | exact ⟨_, resC2 H199, made_outS hres, H199.kept⟩
           ·rw [if_neg hc184] at hres
            refine Sr ?_
            refine Ve ?_
            refine Am ?_
            refine Qn ?_
            refine FW_condP rfl (fun hc205 => ?_) (fun hc205 => ?_)
            ·rw [if_pos hc205] at hres
             refine Sr ?_
             refine FL_loadAll H6 (h := ?_)
             refine FL_loadAll H6 (h := ?_)
             refine FL_val (Gives.eqlG (enc := cellCells) _ _ rfl rfl) rfl ?_
             refine FL_callQ H6 (truth_ok22 _) (h := fun w211 H211 k210 => ?_)
             refine FL_storeAll H211 (h := ?_)
             intro w213 H213
             refine Am ?_
             refine Qn ?_
             refine Rb (QfnC_ret (h := ?_))
             exact ⟨_, resC2 H213, made_outS hres, H213.kept⟩
            ·rw [if_neg hc205] at hres
             refine Sr ?_
             refine Ve ?_
             refine Am ?_
             refine Qn ?_
             refine FW_condP rfl (fun hc219 => ?_) (fun hc219 => ?_)
             ·rw [if_pos hc219] at hres
              refine Sr ?_
              refine FL_loadAll H6 (h := ?_)
              refine FL_loadAll H6 (h := ?_)
              refine FL_callQ H6 (compare_ok9 _ _) (h := fun w224 H224 k223 => ?_)
              refine Vl ?_
              refine FL_callQ H224 (truth_ok22 _) (h := fun w227 H227 k226 => ?_)
              refine FL_storeAll H227 (h := ?_)
              intro w229 H229
              refine Am ?_
              refine Qn ?_
              refine Rb (QfnC_ret (h := ?_))
              exact ⟨_, resC2 H229, made_outS hres, H229.kept⟩
             ·rw [if_neg hc219] at hres
              refine FW_region ?_
              refine Vf ?_
              refine Ld H6 ?_
              refine Vt ?_
              refine Am ?_
              refine FL_nil (Qblk_normal (Qseq_normal ?_))
              refine Sr ?_
              refine Mv ?_
              refine FL_val (Gives.build (out := cellCells ⟨false, (a.s.length : Int), []⟩) (Fills.one rfl rfl rfl (by simp) rfl Fills.nil)) rfl ?_
              refine Mv ?_
              refine FL_storeAll H6 (h := ?_)
              intro w241 H241
              refine Am ?_
              refine Qn ?_
              refine FW_ret (QfnC_ret (h := ?_))
              first
              | exact ⟨_, resC2 H241, made_outN (n := a.n + b.n) hres rfl (fun h => if_pos h), H241.kept⟩
              | exact ⟨_, resC2 H241, made_outN (n := a.n - b.n) hres (by rw [Int.sub_eq_add_neg]) (fun h => by rw [Int.sub_eq_add_neg] at h ⊢; exact if_pos h), H241.kept⟩
              | exact ⟨_, resC2 H241, made_outN (n := a.n * b.n) hres rfl hcp, H241.kept⟩
              | exact ⟨_, resC2 H241, made_outN (n := -a.n) hres (by rw [show -a.n = a.n * -1 by omega]) (fun h => by rw [show -a.n = a.n * -1 by omega] at h ⊢; exact hcp h), H241.kept⟩
              | exact ⟨_, resC2 H241, made_outS hres, H241.kept⟩
end
end Go.Proofs.YtmkaahkbhdlniaaGreatDoor
