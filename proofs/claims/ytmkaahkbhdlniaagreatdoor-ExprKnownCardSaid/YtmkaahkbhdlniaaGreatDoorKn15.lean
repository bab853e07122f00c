/-
 The document's steps, walked: products, logic.
-/
import Derived.Test.YtmkaahkbhdlniaaGreatDoorKn14
set_option linter.unusedVariables false
set_option linter.unusedSimpArgs false
namespace Go.Proofs.YtmkaahkbhdlniaaGreatDoor
open Go Go.Mw Go.Lib
set_option maxRecDepth 4000
theorem quo_fits {n b : Int} (hn : -9223372036854775808 ≤ n ∧ n ≤ 9223372036854775807) (h0 : b ≠ 0) (h1 : b ≠ -1) : -9223372036854775808 ≤ n.tdiv b ∧ n.tdiv b ≤ 9223372036854775807 := by
 by_cases hb : b = 1
 ·subst hb; rw [Int.tdiv_one]; exact hn
 have e : (n.tdiv b).natAbs = n.natAbs / b.natAbs := Int.natAbs_tdiv n b
 have hb2 : 2 ≤ b.natAbs := by omega
 have h2 : n.natAbs / b.natAbs ≤ n.natAbs / 2 := Nat.div_le_div_left hb2 (by decide)
 obtain ⟨q, hq⟩ : ∃ q, q = n.natAbs / b.natAbs := ⟨_, rfl⟩
 obtain ⟨m, hm⟩ : ∃ m, m = n.tdiv b := ⟨_, rfl⟩
 rw [← hq] at e h2
 rw [← hm] at e ⊢
 omega
theorem prod_fits {a b : Int} (h0 : b ≠ 0) (hb : -9223372036854775808 ≤ b ∧ b ≤ 9223372036854775807) : (IntKind.i64.wrap (a * b)).tdiv b = a ↔ fitsI (a * b) = true := by
 obtain ⟨p, hp⟩ : ∃ p, p = a * b := ⟨_, rfl⟩
 rw [← hp]
 constructor
 ·intro h
  refine decide_eq_true ?_
  obtain ⟨n, hn⟩ : ∃ n, n = IntKind.i64.wrap p := ⟨_, rfl⟩
  rw [← hn] at h
  have hm := (Int.mul_tdiv_add_tmod n b).symm
  have hm2 : (n.tmod b).natAbs = n.natAbs % b.natAbs := Int.natAbs_tmod n b
  have hm3 : n.natAbs % b.natAbs < b.natAbs := Nat.mod_lt _ (by omega)
  rw [h, Int.mul_comm, ← hp] at hm
  rw [IntKind.wrap_i64] at hn
  omega
 intro h
 have h' := of_decide_eq_true h
 rw [wrap64 h', hp, Int.mul_tdiv_cancel _ h0]
def logicG (k : Int) (a b : CellM) : CellM :=
 if k = 13 ∧ ((a.null = false ∧ a.n = 0) ∨ (b.null = false ∧ b.n = 0)) then flagC false
 else if k = 14 ∧ (a.n = 1 ∨ b.n = 1) then flagC true
 else if a.null = true ∨ b.null = true then cellNull
 else if k = 15 then flagC (decide (a.n = 0))
 else flagC (decide (k = 13))
section
variable {w : World}
theorem product_ok22 (a b : Int) (ha : fits a) (hb : fits b) : Rets Tryz.prog 102 [I a, I b] w fun v w' => (∃ c, v = .tuple #[I c, .bool (fitsI (a * b))] ∧ (fitsI (a * b) = true → c = a * b)) ∧ Kept noB w w' := by
 have H := Sep.start0 w
 obtain ⟨ha1, ha2⟩ := ha
 obtain ⟨hb1, hb2⟩ := hb
 refine rets2 Tryz.func102 rfl rfl rfl rfl ?_
 refine Sr (Am ?_)
 refine Am ?_
 refine Qn (FW_seq (Sr (Mv ?_)))
 refine Ve ?_
 refine Mv ?_
 refine FL_splitP (t := 9) rfl (fun hs6 => ?_) (fun hs6 => ?_)
 ·refine Of (Of (Pt ?_))
  refine Qn (FW_cond_true rfl ?_)
  refine Sr (Am ?_)
  refine Am ?_
  refine Qn (Rs (Qfn_ret (hR := ?_)))
  have h0 : a * b = 0 := by first | (rw [show a = 0 by omega]; simp) | (rw [show b = 0 by omega]; simp)
  rw [h0]
  exact ⟨⟨0, rfl, fun _ => rfl⟩, H.kept⟩
 refine On (Mv ?_)
 refine On (Ve ?_)
 refine Pf ?_
 refine Qn (Cp rfl (fun hc14 => ?_) (fun hc14 => ?_))
 ·refine Sr (Am ?_)
  refine Am ?_
  refine Qn (Rs (Qfn_ret (hR := ?_)))
  have h0 : a * b = 0 := by first | (rw [show a = 0 by omega]; simp) | (rw [show b = 0 by omega]; simp)
  rw [h0]
  exact ⟨⟨0, rfl, fun _ => rfl⟩, H.kept⟩
 refine Sk (FW_seq (Sr (Mv ?_)))
 refine Ve ?_
 refine Qn (Cp rfl (fun hc20 => ?_) (fun hc20 => ?_))
 ·refine Sr (Mv ?_)
  refine Vv (Gives.negW (c := IntKind.i64.wrap (0 - b)) rfl rfl) (Mv ?_)
  refine Vn ?_
  refine Am ?_
  refine Am ?_
  refine Qn (Rs (Qfn_ret (hR := ?_)))
  have h0 : a * b = -b := by rw [show a = -1 by omega]; simp
  rw [h0]
  have hf : fitsI (-b) = decide (b ≠ -9223372036854775808) := by unfold fitsI; rw [decide_eq_decide]; omega
  rw [hf]
  exact ⟨⟨IntKind.i64.wrap (0 - b), rfl, fun h => by have := of_decide_eq_true h; rw [wrap64 (by omega)]; omega⟩, H.kept⟩
 refine Sk (FW_seq (Sr (Mv ?_)))
 refine Ve ?_
 refine Qn (Cp rfl (fun hc30 => ?_) (fun hc30 => ?_))
 ·refine Sr (Mv ?_)
  refine Vv (Gives.negW (c := IntKind.i64.wrap (0 - a)) rfl rfl) (Mv ?_)
  refine Vn ?_
  refine Am ?_
  refine Am ?_
  refine Qn (Rs (Qfn_ret (hR := ?_)))
  have h0 : a * b = -a := by rw [show b = -1 by omega]; simp
  rw [h0]
  have hf : fitsI (-a) = decide (a ≠ -9223372036854775808) := by unfold fitsI; rw [decide_eq_decide]; omega
  rw [hf]
  exact ⟨⟨IntKind.i64.wrap (0 - a), rfl, fun h => by have := of_decide_eq_true h; rw [wrap64 (by omega)]; omega⟩, H.kept⟩
 refine Sk (Sr (Mv ?_))
 refine Mv ?_
 refine Vv (Gives.mulW (c := IntKind.i64.wrap (a * b)) rfl rfl rfl) (Am ?_)
 refine Qn (FW_seq (FW_drawS rfl H (h := fun hok42 w44 H44 => ?_)))
 refine Gm hok42 0 ?_
 refine Gm hok42 1 ?_
 refine Gm hok42 2 ?_
 refine Gp hok42 3 rfl rfl (fun _ => (Gives.quoW (c := (IntKind.i64.wrap (a * b)).tdiv b) rfl rfl (by omega) (wrap64 (quo_fits (by rw [IntKind.wrap_i64]; omega) (by omega) (by omega))))) ?_
 refine Gm hok42 4 ?_
 refine Gp hok42 5 rfl rfl (fun _ => (Gives.eql rfl rfl)) (Gp hok42 6 rfl rfl (fun _ => Gives.assign rfl) ?_)
 refine Gp hok42 7 rfl rfl (fun _ => Gives.assign rfl) (FG_end hok42 (by kernel_rfl) ?_)
 refine Qseq_normal (FW_ret (Qfn_ret (hR := ?_)))
 have hpf := prod_fits (a := a) (b := b) (by omega) ⟨hb1, hb2⟩
 have hf : fitsI (a * b) = decide ((IntKind.i64.wrap (a * b)).tdiv b = a) := by rw [Bool.eq_iff_iff, decide_eq_true_eq]; exact hpf.symm
 refine ⟨⟨IntKind.i64.wrap (a * b), by rw [hf]; rfl, fun h => wrap64 (of_decide_eq_true h)⟩, H44.kept⟩
theorem logic_ok22 (k : Int) (a b : CellM) : Rets Tryz.prog 99 [I k, agg (cellCells a), agg (cellCells b)] w fun v w' => v = agg (cellCells (logicG k a b)) ∧ Kept noB w w' := by
 have H := Sep.start0 w
 obtain ⟨res, hres⟩ : ∃ res, res = logicG k a b := ⟨_, rfl⟩
 rw [← hres]
 unfold logicG at hres
 refine retsC3 Tryz.func99 rfl rfl rfl rfl ?_
 refine Sr (FL_box H (h := fun b1 w2 H2 k1 => ?_))
 refine FL_box H2 (h := fun b3 w4 H4 k3 => ?_)
 refine FL_alloc H4 (h := fun b5 w6 H6 k5 => ?_)
 refine Qn (FW_cut (fun z : Bool => [(0, I k), (4, .pointer (some ⟨b1, 0, none⟩)), (5, .pointer (some ⟨b3, 0, none⟩)), (6, .pointer (some ⟨b5, 0, none⟩)), (7, .bool z)]) (fun z w' => z = decide (a.null = true ∨ b.null = true) ∧ Sep w noB [blk b5 (cellCells cell0) 34, blk b3 (cellCells b) 34, blk b1 (cellCells a) 34] w') ?_ ?_)
 ·refine FW_region (Vf ?_)
  refine Ld H6 ?_
  refine Mv ?_
  refine FL_split (t := 12) rfl (fun hs11 => ?_) (fun hs11 => ?_)
  ·refine Of (Of (Pt ?_))
   refine Am ?_
   refine FL_nil ?_
   exact Qcut_normal _ ⟨rfl, rfl, rfl, rfl, rfl, trivial⟩ ⟨by simp [*], H6⟩
  refine On (Vf ?_)
  refine On (Ld H6 ?_)
  refine Pf ?_
  refine Am ?_
  refine FL_nil ?_
  exact Qcut_normal _ ⟨rfl, rfl, rfl, rfl, rfl, trivial⟩ ⟨by simp [*], H6⟩
 rintro nn τ w21 ⟨hnn, H21⟩
 simp only [upds, like, upd_ds, und_ds]
 refine FW_cut (fun z : Bool => [(0, I k), (4, .pointer (some ⟨b1, 0, none⟩)), (5, .pointer (some ⟨b3, 0, none⟩)), (6, .pointer (some ⟨b5, 0, none⟩)), (7, .bool nn), (8, .bool z)]) (fun z w' => z = decide (a.n = 1 ∨ b.n = 1) ∧ Sep w noB [blk b5 (cellCells cell0) 34, blk b3 (cellCells b) 34, blk b1 (cellCells a) 34] w') ?_ ?_
 ·refine FW_region (Vf ?_)
  refine Ld H21 ?_
  refine Ve ?_
  refine Mv ?_
  refine FL_splitP (t := 19) rfl (fun hs27 => ?_) (fun hs27 => ?_)
  ·refine Of (Of (Of (Pt ?_)))
   refine Am ?_
   refine FL_nil ?_
   exact Qcut_normal _ ⟨rfl, rfl, rfl, rfl, rfl, rfl, trivial⟩ ⟨by simp [*], H21⟩
  refine On (Vf ?_)
  refine On (Ld H21 ?_)
  refine On (Ve ?_)
  refine Pf ?_
  refine Am ?_
  refine FL_nil ?_
  exact Qcut_normal _ ⟨rfl, rfl, rfl, rfl, rfl, rfl, trivial⟩ ⟨by simp [*], H21⟩
 rintro n1 τ w38 ⟨hn1, H38⟩
 simp only [upds, like, upd_ds]
 refine FW_cut (fun z : Bool => [(0, I k), (4, .pointer (some ⟨b1, 0, none⟩)), (5, .pointer (some ⟨b3, 0, none⟩)), (6, .pointer (some ⟨b5, 0, none⟩)), (7, .bool nn), (8, .bool n1), (9, .bool z)]) (fun z w' => z = decide ((a.null = false ∧ a.n = 0) ∨ (b.null = false ∧ b.n = 0)) ∧ Sep w noB [blk b5 (cellCells cell0) 34, blk b3 (cellCells b) 34, blk b1 (cellCells a) 34] w') ?_ ?_
 ·refine FW_region (Vf ?_)
  refine Ld H38 ?_
  refine Vv (Gives.not rfl) (Mv ?_)
  refine FL_split (t := 27) rfl (fun hs44 => ?_) (fun hs44 => ?_)
  ·refine On (Vf ?_)
   refine On (Ld H38 ?_)
   refine On (Ve ?_)
   refine Pt ?_
   refine Mv ?_
   refine FL_splitP (t := 32) rfl (fun hs50 => ?_) (fun hs50 => ?_)
   ·refine Of (Of (Of (Of (Ou (Ou (Ou (Of (Pt ?_))))))))
    refine Am ?_
    refine FL_nil ?_
    exact Qcut_normal _ ⟨rfl, rfl, rfl, rfl, rfl, rfl, rfl, trivial⟩ ⟨by first | (simp [*]; done) | (simp_all; done), H38⟩
   refine On (Vf ?_)
   refine On (Ld H38 ?_)
   refine On (Vv (Gives.not rfl) (On ?_))
   refine Mv ?_
   refine FL_split (t := 36) rfl (fun hs58 => ?_) (fun hs58 => ?_)
   ·refine On (Vf ?_)
    refine On (Ld H38 ?_)
    refine On (Ve ?_)
    refine On (Pt ?_)
    refine Pf ?_
    refine Am ?_
    refine FL_nil ?_
    exact Qcut_normal _ ⟨rfl, rfl, rfl, rfl, rfl, rfl, rfl, trivial⟩ ⟨by first | (simp [*]; done) | (simp_all; done), H38⟩
   refine Of (Of (Of (On (Pf ?_))))
   refine Pf ?_
   refine Am ?_
   refine FL_nil ?_
   exact Qcut_normal _ ⟨rfl, rfl, rfl, rfl, rfl, rfl, rfl, trivial⟩ ⟨by first | (simp [*]; done) | (simp_all; done), H38⟩
  refine Of (Of (Of (Pf ?_)))
  refine Mv ?_
  refine On (Vf ?_)
  refine On (Ld H38 ?_)
  refine On (Vv (Gives.not rfl) (On ?_))
  refine Mv ?_
  refine FL_split (t := 36) rfl (fun hs76 => ?_) (fun hs76 => ?_)
  ·refine On (Vf ?_)
   refine On (Ld H38 ?_)
   refine On (Ve ?_)
   refine On (Pt ?_)
   refine Pf ?_
   refine Am ?_
   refine FL_nil ?_
   exact Qcut_normal _ ⟨rfl, rfl, rfl, rfl, rfl, rfl, rfl, trivial⟩ ⟨by first | (simp [*]; done) | (simp_all; done), H38⟩
  refine Of (Of (Of (On (Pf ?_))))
  refine Pf ?_
  refine Am ?_
  refine FL_nil ?_
  exact Qcut_normal _ ⟨rfl, rfl, rfl, rfl, rfl, rfl, rfl, trivial⟩ ⟨by first | (simp [*]; done) | (simp_all; done), H38⟩
 rintro n0 τ w89 ⟨hn0, H89⟩
 have hres' : res = if k = 13 ∧ n0 = true then flagC false else if k = 14 ∧ n1 = true then flagC true else if nn = true then cellNull else if k = 15 then flagC (decide (a.n = 0)) else flagC (decide (k = 13)) := by rw [hres, hn0, hn1, hnn]; simp only [decide_eq_true_eq]
 clear hres hn0 hn1 hnn
 simp only [upds, like, upd_ds]
 refine FW_seq (FW_block (Sr (Mv ?_)))
 refine Ve ?_
 refine Mv ?_
 refine FL_splitP (t := 45) rfl (fun hs93 => ?_) (fun hs93 => ?_)
 ·refine On (Mv ?_)
  refine Pt ?_
  refine Am ?_
  refine Qn (Cd rfl (fun hc97 => ?_) (fun hc97 => ?_))
  ·refine Sr (FL_callQ H89 (truth_ok22 _) (h := fun w99 H99 k98 => ?_))
   refine FL_storeAll H99 (h := fun w101 H101 => ?_)
   refine Qn (Rb (QfnC_ret (h := ?_)))
   refine ⟨_, resC1 H101, ?_, H101.kept⟩
   show agg (cellCells _) = agg (cellCells res)
   (rw [hres']; simp [*])
  refine Sr (Mv ?_)
  refine Ve ?_
  refine Mv ?_
  refine FL_splitP (t := 52) rfl (fun hs106 => ?_) (fun hs106 => ?_)
  ·refine On (Mv ?_)
   refine Pt ?_
   refine Am ?_
   refine Qn (Cd rfl (fun hc110 => ?_) (fun hc110 => ?_))
   ·refine Sr (FL_callQ H89 (truth_ok22 _) (h := fun w112 H112 k111 => ?_))
    refine FL_storeAll H112 (h := fun w114 H114 => ?_)
    refine Qn (Rb (QfnC_ret (h := ?_)))
    refine ⟨_, resC1 H114, ?_, H114.kept⟩
    show agg (cellCells _) = agg (cellCells res)
    (exfalso; omega)
   refine Sr (Mv ?_)
   refine Am ?_
   refine Qn (Cd rfl (fun hc118 => ?_) (fun hc118 => ?_))
   ·refine Sr (Vv (Gives.build (out := cellCells cellNull) (Fills.one rfl rfl rfl (by simp) rfl Fills.nil)) (FL_storeAll H89 (h := fun w121 H121 => ?_)))
    refine Qn (Rb (QfnC_ret (h := ?_)))
    refine ⟨_, resC1 H121, ?_, H121.kept⟩
    show agg (cellCells _) = agg (cellCells res)
    (exfalso; omega)
   refine Sr (Mv ?_)
   refine Ve ?_
   refine Am ?_
   refine Qn (Cp rfl (fun hc126 => ?_) (fun hc126 => ?_))
   ·refine Sr (Vf ?_)
    refine Ld H89 ?_
    refine Ve ?_
    refine FL_callQ H89 (truth_ok22 _) (h := fun w131 H131 k130 => ?_)
    refine FL_storeAll H131 (h := fun w133 H133 => ?_)
    refine Qn (Rb (QfnC_ret (h := ?_)))
    refine ⟨_, resC1 H133, ?_, H133.kept⟩
    show agg (cellCells _) = agg (cellCells res)
    (exfalso; omega)
   refine FW_skip (Qblk_normal (Qseq_normal (Sr (Mv ?_))))
   refine Ve ?_
   refine FL_callQ H89 (truth_ok22 _) (h := fun w138 H138 k137 => ?_)
   refine FL_storeAll H138 (h := fun w140 H140 => ?_)
   refine Qn (FW_ret (QfnC_ret (h := ?_)))
   refine ⟨_, resC1 H140, ?_, H140.kept⟩
   show agg (cellCells _) = agg (cellCells res)
   (exfalso; omega)
  refine Of (Pf ?_)
  refine Am ?_
  refine Qn (FW_cond_false rfl ?_)
  refine Sr (Mv ?_)
  refine Am ?_
  refine Qn (Cd rfl (fun hc146 => ?_) (fun hc146 => ?_))
  ·refine Sr (Vv (Gives.build (out := cellCells cellNull) (Fills.one rfl rfl rfl (by simp) rfl Fills.nil)) (FL_storeAll H89 (h := fun w149 H149 => ?_)))
   refine Qn (Rb (QfnC_ret (h := ?_)))
   refine ⟨_, resC1 H149, ?_, H149.kept⟩
   show agg (cellCells _) = agg (cellCells res)
   (rw [hres']; simp [*])
  refine Sr (Mv ?_)
  refine Ve ?_
  refine Am ?_
  refine Qn (Cp rfl (fun hc154 => ?_) (fun hc154 => ?_))
  ·refine Sr (Vf ?_)
   refine Ld H89 ?_
   refine Ve ?_
   refine FL_callQ H89 (truth_ok22 _) (h := fun w159 H159 k158 => ?_)
   refine FL_storeAll H159 (h := fun w161 H161 => ?_)
   refine Qn (Rb (QfnC_ret (h := ?_)))
   refine ⟨_, resC1 H161, ?_, H161.kept⟩
   show agg (cellCells _) = agg (cellCells res)
   (exfalso; omega)
  refine FW_skip (Qblk_normal (Qseq_normal (Sr (Mv ?_))))
  refine Ve ?_
  refine FL_callQ H89 (truth_ok22 _) (h := fun w166 H166 k165 => ?_)
  refine FL_storeAll H166 (h := fun w168 H168 => ?_)
  refine Qn (FW_ret (QfnC_ret (h := ?_)))
  refine ⟨_, resC1 H168, ?_, H168.kept⟩
  show agg (cellCells _) = agg (cellCells res)
  (rw [hres']; simp [*])
 refine Of (Pf ?_)
 refine Am ?_
 refine Qn (FW_cond_false rfl ?_)
 refine Sr (Mv ?_)
 refine Ve ?_
 refine Mv ?_
 refine FL_splitP (t := 52) rfl (fun hs175 => ?_) (fun hs175 => ?_)
 ·refine On (Mv ?_)
  refine Pt ?_
  refine Am ?_
  refine Qn (Cd rfl (fun hc179 => ?_) (fun hc179 => ?_))
  ·refine Sr (FL_callQ H89 (truth_ok22 _) (h := fun w181 H181 k180 => ?_))
   refine FL_storeAll H181 (h := fun w183 H183 => ?_)
   refine Qn (Rb (QfnC_ret (h := ?_)))
   refine ⟨_, resC1 H183, ?_, H183.kept⟩
   show agg (cellCells _) = agg (cellCells res)
   (rw [hres']; simp [*])
  refine Sr (Mv ?_)
  refine Am ?_
  refine Qn (Cd rfl (fun hc187 => ?_) (fun hc187 => ?_))
  ·refine Sr (Vv (Gives.build (out := cellCells cellNull) (Fills.one rfl rfl rfl (by simp) rfl Fills.nil)) (FL_storeAll H89 (h := fun w190 H190 => ?_)))
   refine Qn (Rb (QfnC_ret (h := ?_)))
   refine ⟨_, resC1 H190, ?_, H190.kept⟩
   show agg (cellCells _) = agg (cellCells res)
   (rw [hres']; simp [*])
  refine Sr (Mv ?_)
  refine Ve ?_
  refine Am ?_
  refine Qn (Cp rfl (fun hc195 => ?_) (fun hc195 => ?_))
  ·refine Sr (Vf ?_)
   refine Ld H89 ?_
   refine Ve ?_
   refine FL_callQ H89 (truth_ok22 _) (h := fun w200 H200 k199 => ?_)
   refine FL_storeAll H200 (h := fun w202 H202 => ?_)
   refine Qn (Rb (QfnC_ret (h := ?_)))
   refine ⟨_, resC1 H202, ?_, H202.kept⟩
   show agg (cellCells _) = agg (cellCells res)
   (exfalso; omega)
  refine FW_skip (Qblk_normal (Qseq_normal (Sr (Mv ?_))))
  refine Ve ?_
  refine FL_callQ H89 (truth_ok22 _) (h := fun w207 H207 k206 => ?_)
  refine FL_storeAll H207 (h := fun w209 H209 => ?_)
  refine Qn (FW_ret (QfnC_ret (h := ?_)))
  refine ⟨_, resC1 H209, ?_, H209.kept⟩
  show agg (cellCells _) = agg (cellCells res)
  (rw [hres']; simp [*])
 refine Of (Pf ?_)
 refine Am ?_
 refine Qn (FW_cond_false rfl ?_)
 refine Sr (Mv ?_)
 refine Am ?_
 refine Qn (Cd rfl (fun hc215 => ?_) (fun hc215 => ?_))
 ·refine Sr (Vv (Gives.build (out := cellCells cellNull) (Fills.one rfl rfl rfl (by simp) rfl Fills.nil)) (FL_storeAll H89 (h := fun w218 H218 => ?_)))
  refine Qn (Rb (QfnC_ret (h := ?_)))
  refine ⟨_, resC1 H218, ?_, H218.kept⟩
  show agg (cellCells _) = agg (cellCells res)
  (rw [hres']; simp [*])
 refine Sr (Mv ?_)
 refine Ve ?_
 refine Am ?_
 refine Qn (Cp rfl (fun hc223 => ?_) (fun hc223 => ?_))
 ·refine Sr (Vf ?_)
  refine Ld H89 ?_
  refine Ve ?_
  refine FL_callQ H89 (truth_ok22 _) (h := fun w228 H228 k227 => ?_)
  refine FL_storeAll H228 (h := fun w230 H230 => ?_)
  refine Qn (Rb (QfnC_ret (h := ?_)))
  refine ⟨_, resC1 H230, ?_, H230.kept⟩
  show agg (cellCells _) = agg (cellCells res)
  (rw [hres']; simp [*])
 refine FW_skip (Qblk_normal (Qseq_normal (Sr (Mv ?_))))
 refine Ve ?_
 refine FL_callQ H89 (truth_ok22 _) (h := fun w235 H235 k234 => ?_)
 refine FL_storeAll H235 (h := fun w237 H237 => ?_)
 refine Qn (FW_ret (QfnC_ret (h := ?_)))
 refine ⟨_, resC1 H237, ?_, H237.kept⟩
 show agg (cellCells _) = agg (cellCells res)
 (rw [hres']; simp [*])
end
def numG (n : Int) : Option CellM := if fitsI n = true then some ⟨false, n, []⟩ else none
def madeG (k : Int) (a b : CellM) : Option CellM :=
 if k = 13 ∨ k = 14 ∨ k = 15 then some (logicG k a b)
 else if k = 16 then some (flagC a.null)
 else if k = 17 then some (if a.null = true then b else a)
 else if a.null = true ∨ b.null = true then some cellNull
 else if k = 7 then numG (a.n + b.n)
 else if k = 8 then numG (a.n - b.n)
 else if k = 9 then numG (a.n * b.n)
 else if k = 10 then numG (-a.n)
 else if k = 11 then some (flagC (decide (a = b)))
 else if k = 12 then some (flagC (decide (cmpC a b < 0)))
 else some ⟨false, a.s.length, []⟩
theorem made_outC {res : Option CellM} {c : CellM} {ok : Bool} (h1 : ok = res.isSome) (h2 : ∀ y, res = some y → c = y) : ∃ t', Value.tuple #[agg (cellCells c), .bool ok] = .tuple #[agg (cellCells t'), .bool res.isSome] ∧ ∀ x, res = some x → t' = x :=
 ⟨c, by rw [h1], h2⟩
theorem made_outS {res : Option CellM} {c : CellM} (h : res = some c) : ∃ t', Value.tuple #[agg (cellCells c), .bool true] = .tuple #[agg (cellCells t'), .bool res.isSome] ∧ ∀ x, res = some x → t' = x :=
 made_outC (by rw [h]; rfl) (fun y hy => by rw [h] at hy; injection hy)
theorem made_outN {res : Option CellM} {n c : Int} {ok : Bool} (h : res = numG n) (h1 : ok = fitsI n) (h2 : fitsI n = true → c = n) : ∃ t', Value.tuple #[agg (cellCells ⟨false, c, []⟩), .bool ok] = .tuple #[agg (cellCells t'), .bool res.isSome] ∧ ∀ x, res = some x → t' = x := by
 subst h h1
 unfold numG
 cases hf : fitsI n with
 | false => exact ⟨_, rfl, fun y hy => by cases hy⟩
 | true => exact ⟨_, rfl, fun y hy => by rw [h2 hf]; injection hy⟩
attribute [local irreducible] cmpC
section
variable {w : World}
theorem madeC_ok22 (k : Int) (a b : CellM) (ha : fits a.n) (hb : fits b.n) (hs : a.s.length ≤ 9223372036854775807) : Rets Tryz.prog 57 [I k, agg (cellCells a), agg (cellCells b)] w fun v w' => (∃ c, v = .tuple #[agg (cellCells c), .bool (madeG k a b).isSome] ∧ ∀ y, madeG k a b = some y → c = y) ∧ Kept noB w w' := by
 have H := Sep.start0 w
 have ha' := ha
 obtain ⟨ha1, ha2⟩ := ha
 obtain ⟨hb1, hb2⟩ := hb
 obtain ⟨res, hres⟩ : ∃ res, res = madeG k a b := ⟨_, rfl⟩
 rw [← hres]
 unfold madeG at hres
 refine retsC3 Tryz.func57 rfl rfl rfl rfl ?_
 refine Sr (FL_box H (h := fun b1 w2 H2 k1 => ?_))
 refine FL_box H2 (h := fun b3 w4 H4 k3 => ?_)
 refine FL_alloc H4 (h := fun b5 w6 H6 k5 => ?_)
 refine Am ?_
 refine Qn (FW_seq (Sr (Mv ?_)))
 refine Qn (FW_block (FW_seq (Sr (Ve ?_))))
 refine Am ?_
 refine Qn (Cp rfl (fun hc11 => ?_) (fun hc11 => ?_))
 ·refine Sk (FW_cond_true (congrArg Value.bool (decide_eq_true hc11)) ?_)
  refine Sr (Mv ?_)
  refine FL_loadAll H6 (h := ?_)
  refine FL_loadAll H6 (h := ?_)
  refine FL_callQ H6 (logic_ok22 k a b) (h := fun w16 H16 k15 => ?_)
  refine FL_storeAll H16 (h := fun w18 H18 => ?_)
  refine Am ?_
  refine Qn (Rb (QfnC_ret (h := ?_)))
  exact ⟨_, resC2 H18, made_outS (by rw [hres, if_pos (by omega)]), H18.kept⟩
 refine Sr (Ve ?_)
 refine Am ?_
 refine Qn (Cp rfl (fun hc23 => ?_) (fun hc23 => ?_))
 ·refine Sk (FW_cond_true (congrArg Value.bool (decide_eq_true hc23)) ?_)
  refine Sr (Mv ?_)
  refine FL_loadAll H6 (h := ?_)
  refine FL_loadAll H6 (h := ?_)
  refine FL_callQ H6 (logic_ok22 k a b) (h := fun w28 H28 k27 => ?_)
  refine FL_storeAll H28 (h := fun w30 H30 => ?_)
  refine Am ?_
  refine Qn (Rb (QfnC_ret (h := ?_)))
  exact ⟨_, resC2 H30, made_outS (by rw [hres, if_pos (by omega)]), H30.kept⟩
 refine FW_region (Ve ?_)
 refine Am ?_
 refine Qn (Cp rfl (fun hc35 => ?_) (fun hc35 => ?_))
 ·refine Sr (Mv ?_)
  refine FL_loadAll H6 (h := ?_)
  refine FL_loadAll H6 (h := ?_)
  refine FL_callQ H6 (logic_ok22 k a b) (h := fun w40 H40 k39 => ?_)
  refine FL_storeAll H40 (h := fun w42 H42 => ?_)
  refine Am ?_
  refine Qn (Rb (QfnC_ret (h := ?_)))
  exact ⟨_, resC2 H42, made_outS (by rw [hres, if_pos (by omega)]), H42.kept⟩
 refine Sr (Ve ?_)
 refine Am ?_
 refine Qn (Cp rfl (fun hc47 => ?_) (fun hc47 => ?_))
 ·refine Sr (Vf ?_)
  refine Ld H6 ?_
  refine FL_callQ H6 (truth_ok22 _) (h := fun w51 H51 k50 => ?_)
  refine FL_storeAll H51 (h := fun w53 H53 => ?_)
  refine Am ?_
  refine Qn (Rb (QfnC_ret (h := ?_)))
  exact ⟨_, resC2 H53, made_outS (by rw [hres, if_neg (by omega), if_pos (by omega)]), H53.kept⟩
 refine Sr (Ve ?_)
 refine Am ?_
 refine Qn (Cp rfl (fun hc58 => ?_) (fun hc58 => ?_))
 ·refine FW_seq (Sr (Vf ?_))
  refine Ld H6 ?_
  refine Qn (Cd rfl (fun hc61 => ?_) (fun hc61 => ?_))
  ·refine Sr (FL_loadAll H6 (h := ?_))
   refine FL_storeAll H6 (h := fun w64 H64 => ?_)
   refine Am ?_
   refine Qn (Rs (Qblk_ret (Qseq_ret (QfnC_ret (h := ?_)))))
   exact ⟨_, resC2 H64, made_outS (by rw [hres, if_neg (by omega), if_neg (by omega), if_pos (by omega), if_pos (by assumption)]), H64.kept⟩
  refine Sk (Sr (FL_loadAll H6 (h := ?_)))
  refine FL_storeAll H6 (h := fun w69 H69 => ?_)
  refine Am ?_
  refine Qn (Rb (QfnC_ret (h := ?_)))
  exact ⟨_, resC2 H69, made_outS (by rw [hres, if_neg (by omega), if_neg (by omega), if_pos (by omega), if_neg (by simp [*])]), H69.kept⟩
 refine FW_skip (Qblk_normal (Qseq_normal (FW_seq (Sr (Vf ?_)))))
 refine Ld H6 ?_
 refine Mv ?_
 refine FL_split (t := 32) rfl (fun hs75 => ?_) (fun hs75 => ?_)
 ·refine Of (Of (Pt ?_))
  refine Qn (FW_cond_true rfl ?_)
  refine Sr (Vv (Gives.build (out := cellCells cellNull) (Fills.one rfl rfl rfl (by simp) rfl Fills.nil)) (FL_storeAll H6 (h := fun w79 H79 => ?_)))
  refine Am ?_
  refine Qn (Rs (QfnC_ret (h := ?_)))
  exact ⟨_, resC2 H79, made_outS (by rw [hres, if_neg (by omega), if_neg (by omega), if_neg (by omega), if_pos (by simp [*])]), H79.kept⟩
 refine On (Vf ?_)
 refine On (Ld H6 ?_)
 refine Pf ?_
 refine Qn (Cd rfl (fun hc85 => ?_) (fun hc85 => ?_))
 ·refine Sr (Vv (Gives.build (out := cellCells cellNull) (Fills.one rfl rfl rfl (by simp) rfl Fills.nil)) (FL_storeAll H6 (h := fun w88 H88 => ?_)))
  refine Am ?_
  refine Qn (Rs (QfnC_ret (h := ?_)))
  exact ⟨_, resC2 H88, made_outS (by rw [hres, if_neg (by omega), if_neg (by omega), if_neg (by omega), if_pos (by simp [*])]), H88.kept⟩
 have hnn : ¬ (a.null = true ∨ b.null = true) := by simp [*]
 rw [if_neg (by omega), if_neg (by omega), if_neg (by omega), if_neg hnn] at hres
 refine Sk (Sr (Am ?_))
 refine Am ?_
 refine Qn (FW_seq (Sr (Mv ?_)))
 refine Qn (FW_block (Sr (Ve ?_)))
 refine Am ?_
 refine Qn (Cp rfl (fun hc97 => ?_) (fun hc97 => ?_))
 ·rw [if_pos hc97] at hres
  refine FW_region (Vf ?_)
  refine Ld H6 ?_
  refine Vf ?_
  refine Ld H6 ?_
  refine FL_callS (sum_ok22 a.n b.n ⟨ha1, ha2⟩ ⟨hb1, hb2⟩) (h := ?_)
  refine Mv ?_
  refine Vx ?_
  refine Vx ?_
  refine Am ?_
  refine Am ?_
  refine FL_nil (Qblk_normal (Qseq_normal (Sr (Mv ?_))))
  refine Vv (Gives.build (out := cellCells ⟨false, if fitsI (a.n + b.n) = true then a.n + b.n else 0, []⟩) (Fills.one rfl rfl rfl (by simp) rfl Fills.nil)) (Mv ?_)
  refine FL_storeAll H6 (h := fun w113 H113 => ?_)
  refine Am ?_
  refine Qn (FW_ret (QfnC_ret (h := ?_)))
  first
  | exact ⟨_, resC2 H113, made_outN (n := a.n + b.n) hres rfl (fun h => if_pos h), H113.kept⟩
  | exact ⟨_, resC2 H113, made_outN (n := a.n - b.n) hres (by rw [Int.sub_eq_add_neg]) (fun h => by rw [Int.sub_eq_add_neg] at h ⊢; exact if_pos h), H113.kept⟩
  | exact ⟨_, resC2 H113, made_outN (n := a.n * b.n) hres rfl hcp, H113.kept⟩
  | exact ⟨_, resC2 H113, made_outN (n := -a.n) hres (by rw [show -a.n = a.n * -1 by omega]) (fun h => by rw [show -a.n = a.n * -1 by omega] at h ⊢; exact hcp h), H113.kept⟩
  | exact ⟨_, resC2 H113, made_outS hres, H113.kept⟩
 rw [if_neg hc97] at hres
 refine Sr (Ve ?_)
 refine Am ?_
 refine Qn (Cp rfl (fun hc119 => ?_) (fun hc119 => ?_))
 ·rw [if_pos hc119] at hres
  refine FW_seq (Sr (Vf ?_))
  refine Ld H6 ?_
  refine Ve ?_
  refine Qn (Cp rfl (fun hc124 => ?_) (fun hc124 => ?_))
  ·refine FW_seq (FW_drawS rfl H6 (h := fun hok125 w127 H127 => ?_))
   refine Gp hok125 0 rfl rfl (fun _ => (Gives.field0 rfl)) (FGload hok125 1 H127 (h := ?_))
   refine Gp hok125 2 rfl rfl (fun _ => (Gives.addW (c := IntKind.i64.wrap (a.n + 1)) rfl rfl rfl)) (Gp hok125 3 rfl rfl (fun _ => (Gives.addW (c := IntKind.i64.wrap (IntKind.i64.wrap (a.n + 1) + 9223372036854775807)) rfl rfl rfl)) ?_)
   refine Gp hok125 4 rfl rfl (fun _ => (Gives.build (out := cellCells ⟨false, IntKind.i64.wrap (IntKind.i64.wrap (a.n + 1) + 9223372036854775807), []⟩) (Fills.one rfl rfl rfl (by simp) rfl Fills.nil))) (Gp hok125 5 rfl rfl (fun _ => (Gives.field0 rfl)) ?_)
   refine FGload hok125 6 H127 (h := ?_)
   refine Gp hok125 7 rfl rfl (fun _ => (Gives.lss rfl rfl)) (FGstoreAll hok125 8 [(7, true), (6, false), (5, true)] H127 (h := fun w137 H137 => ⟨Stab_pure (Stab_load H137 (h := Stab_pure (Stab_nil))), ?_⟩))
   refine Gp hok125 9 rfl rfl (fun _ => Gives.assign rfl) (FG_end hok125 (by kernel_rfl) ?_)
   refine Qseq_normal (Rs (Qblk_ret (Qseq_ret (QfnC_ret (h := ?_)))))
   exact ⟨_, resC2 H137, made_outN (n := a.n - b.n) hres (by unfold fitsI; rw [decide_eq_decide]; omega) (fun h => by have := of_decide_eq_true h; rw [IntKind.wrap_i64, IntKind.wrap_i64]; omega), H137.kept⟩
  refine Sk (FW_region (Vf ?_))
  refine Ld H6 ?_
  refine Vf ?_
  refine Ld H6 ?_
  refine Vv (Gives.negW (c := -b.n) rfl (by rw [wrap64 (by omega)]; omega)) ?_
  refine FL_callS (sum_ok22 a.n (-b.n) ⟨ha1, ha2⟩ ⟨by omega, by omega⟩) (h := ?_)
  refine Mv ?_
  refine Vx ?_
  refine Vx ?_
  refine Am ?_
  refine Am ?_
  refine FL_nil (Qblk_normal (Qseq_normal (Sr (Mv ?_))))
  refine Vv (Gives.build (out := cellCells ⟨false, if fitsI (a.n + -b.n) = true then a.n + -b.n else 0, []⟩) (Fills.one rfl rfl rfl (by simp) rfl Fills.nil)) (Mv ?_)
  refine FL_storeAll H6 (h := fun w155 H155 => ?_)
  refine Am ?_
  refine Qn (FW_ret (QfnC_ret (h := ?_)))
  first
  | exact ⟨_, resC2 H155, made_outN (n := a.n + b.n) hres rfl (fun h => if_pos h), H155.kept⟩
  | exact ⟨_, resC2 H155, made_outN (n := a.n - b.n) hres (by rw [Int.sub_eq_add_neg]) (fun h => by rw [Int.sub_eq_add_neg] at h ⊢; exact if_pos h), H155.kept⟩
  | exact ⟨_, resC2 H155, made_outN (n := a.n * b.n) hres rfl hcp, H155.kept⟩
  | exact ⟨_, resC2 H155, made_outN (n := -a.n) hres (by rw [show -a.n = a.n * -1 by omega]) (fun h => by rw [show -a.n = a.n * -1 by omega] at h ⊢; exact hcp h), H155.kept⟩
  | exact ⟨_, resC2 H155, made_outS hres, H155.kept⟩
 rw [if_neg hc119] at hres
 refine Sr (Ve ?_)
 refine Am ?_
 refine Qn (Cp rfl (fun hc161 => ?_) (fun hc161 => ?_))
 ·rw [if_pos hc161] at hres
  refine FW_region (Vf ?_)
  refine Ld H6 ?_
  refine Vf ?_
  refine Ld H6 ?_
  refine FL_call (product_ok22 a.n b.n ha' ⟨hb1, hb2⟩) rfl rfl (fun v' w168 hv => ?_)
  obtain ⟨⟨cp, rfl, hcp⟩, hkk⟩ := hv
  have H168 := H6.keep hkk
  refine Mv ?_
  refine Vx ?_
  refine Vx ?_
  refine Am ?_
  refine Am ?_
  refine FL_nil (Qblk_normal (Qseq_normal (Sr (Mv ?_))))
  refine Vv (Gives.build (out := cellCells ⟨false, cp, []⟩) (Fills.one rfl rfl rfl (by simp) rfl Fills.nil)) (Mv ?_)
  refine FL_storeAll H168 (h := fun w178 H178 => ?_)
  refine Am ?_
  refine Qn (FW_ret (QfnC_ret (h := ?_)))
  first
  | exact ⟨_, resC2 H178, made_outN (n := a.n + b.n) hres rfl (fun h => if_pos h), H178.kept⟩
  | exact ⟨_, resC2 H178, made_outN (n := a.n - b.n) hres (by rw [Int.sub_eq_add_neg]) (fun h => by rw [Int.sub_eq_add_neg] at h ⊢; exact if_pos h), H178.kept⟩
  | exact ⟨_, resC2 H178, made_outN (n := a.n * b.n) hres rfl hcp, H178.kept⟩
  | exact ⟨_, resC2 H178, made_outN (n := -a.n) hres (by rw [show -a.n = a.n * -1 by omega]) (fun h => by rw [show -a.n = a.n * -1 by omega] at h ⊢; exact hcp h), H178.kept⟩
  | exact ⟨_, resC2 H178, made_outS hres, H178.kept⟩
 rw [if_neg hc161] at hres
 refine Sr (Ve ?_)
 refine Am ?_
 refine Qn (Cp rfl (fun hc184 => ?_) (fun hc184 => ?_))
 ·rw [if_pos hc184] at hres
  refine FW_region (Vf ?_)
  refine Ld H6 ?_
  refine FL_call (product_ok22 a.n (-1) ha' ⟨by decide, by decide⟩) rfl rfl (fun v' w189 hv => ?_)
  obtain ⟨⟨cp, rfl, hcp⟩, hkk⟩ := hv
  have H189 := H6.keep hkk
  refine Mv ?_
  refine Vx ?_
  refine Vx ?_
  refine Am ?_
  refine Am ?_
  refine FL_nil (Qblk_normal (Qseq_normal (Sr (Mv ?_))))
  refine Vv (Gives.build (out := cellCells ⟨false, cp, []⟩) (Fills.one rfl rfl rfl (by simp) rfl Fills.nil)) (Mv ?_)
  refine FL_storeAll H189 (h := fun w199 H199 => ?_)
  refine Am ?_
  refine Qn (FW_ret (QfnC_ret (h := ?_)))
  first
  | exact ⟨_, resC2 H199, made_outN (n := a.n + b.n) hres rfl (fun h => if_pos h), H199.kept⟩
  | exact ⟨_, resC2 H199, made_outN (n := a.n - b.n) hres (by rw [Int.sub_eq_add_neg]) (fun h => by rw [Int.sub_eq_add_neg] at h ⊢; exact if_pos h), H199.kept⟩
  | exact ⟨_, resC2 H199, made_outN (n := a.n * b.n) hres rfl hcp, H199.kept⟩
  | exact ⟨_, resC2 H199, made_outN (n := -a.n) hres (by rw [show -a.n = a.n * -1 by omega]) (fun h => by rw [show -a.n = a.n * -1 by omega] at h ⊢; exact hcp h), H199.kept⟩
  | exact ⟨_, resC2 H199, made_outS hres, H199.kept⟩
 rw [if_neg hc184] at hres
 refine Sr (Ve ?_)
 refine Am ?_
 refine Qn (Cp rfl (fun hc205 => ?_) (fun hc205 => ?_))
 ·rw [if_pos hc205] at hres
  refine Sr (FL_loadAll H6 (h := ?_))
  refine FL_loadAll H6 (h := ?_)
  refine Vv (Gives.eqlG (enc := cellCells) _ _ rfl rfl) (FL_callQ H6 (truth_ok22 _) (h := fun w211 H211 k210 => ?_))
  refine FL_storeAll H211 (h := fun w213 H213 => ?_)
  refine Am ?_
  refine Qn (Rb (QfnC_ret (h := ?_)))
  exact ⟨_, resC2 H213, made_outS hres, H213.kept⟩
 rw [if_neg hc205] at hres
 refine Sr (Ve ?_)
 refine Am ?_
 refine Qn (Cp rfl (fun hc219 => ?_) (fun hc219 => ?_))
 ·rw [if_pos hc219] at hres
  refine Sr (FL_loadAll H6 (h := ?_))
  refine FL_loadAll H6 (h := ?_)
  refine FL_callQ H6 (compare_ok9 _ _) (h := fun w224 H224 k223 => ?_)
  refine Vl ?_
  refine FL_callQ H224 (truth_ok22 _) (h := fun w227 H227 k226 => ?_)
  refine FL_storeAll H227 (h := fun w229 H229 => ?_)
  refine Am ?_
  refine Qn (Rb (QfnC_ret (h := ?_)))
  exact ⟨_, resC2 H229, made_outS hres, H229.kept⟩
 rw [if_neg hc219] at hres
 refine FW_region (Vf ?_)
 refine Ld H6 ?_
 refine Vt ?_
 refine Am ?_
 refine FL_nil (Qblk_normal (Qseq_normal (Sr (Mv ?_))))
 refine Vv (Gives.build (out := cellCells ⟨false, (a.s.length : Int), []⟩) (Fills.one rfl rfl rfl (by simp) rfl Fills.nil)) (Mv ?_)
 refine FL_storeAll H6 (h := fun w241 H241 => ?_)
 refine Am ?_
 refine Qn (FW_ret (QfnC_ret (h := ?_)))
 first
 | exact ⟨_, resC2 H241, made_outN (n := a.n + b.n) hres rfl (fun h => if_pos h), H241.kept⟩
 | exact ⟨_, resC2 H241, made_outN (n := a.n - b.n) hres (by rw [Int.sub_eq_add_neg]) (fun h => by rw [Int.sub_eq_add_neg] at h ⊢; exact if_pos h), H241.kept⟩
 | exact ⟨_, resC2 H241, made_outN (n := a.n * b.n) hres rfl hcp, H241.kept⟩
 | exact ⟨_, resC2 H241, made_outN (n := -a.n) hres (by rw [show -a.n = a.n * -1 by omega]) (fun h => by rw [show -a.n = a.n * -1 by omega] at h ⊢; exact hcp h), H241.kept⟩
 | exact ⟨_, resC2 H241, made_outS hres, H241.kept⟩
end
end Go.Proofs.YtmkaahkbhdlniaaGreatDoor
namespace Go.Proofs.YtmkaahkbhdlniaaGreatDoor
open Go Go.Lib
set_option maxRecDepth 4000
def okC (t : TypeM) (c : CellM) : Prop := checkC t c = 0
theorem okC_iff {t : TypeM} {c : CellM} : okC t c ↔ (mayT t = true ∧ ((c.null = true ∧ t.null = true ∧ c = cellNull) ∨ (c.null = false ∧ isC t.kind c = true))) := by
 unfold okC checkC
 cases hm : mayT t
 ·simp
 cases hn : c.null
 ·cases hi : isC t.kind c <;> simp
 by_cases h : t.null = true ∧ c = cellNull
 ·simp [h]
 simp [h]
theorem may_kind {t : TypeM} (h : mayT t = true) : 1 ≤ t.kind ∧ t.kind ≤ 5 := of_decide_eq_true h
theorem may_of {t : TypeM} (h : 1 ≤ t.kind ∧ t.kind ≤ 5) : mayT t = true := decide_eq_true h
theorem okC_null {k : Int} (h : 1 ≤ k ∧ k ≤ 5) : okC ⟨k, true⟩ cellNull := okC_iff.2 ⟨may_of h, .inl ⟨rfl, rfl, rfl⟩⟩
theorem okC_flag (n : Bool) (b : Bool) : okC ⟨1, n⟩ (flagC b) := okC_iff.2 ⟨may_of (show (1 : Int) ≤ 1 ∧ (1 : Int) ≤ 5 by decide), .inr ⟨by cases b <;> rfl, by cases b <;> rfl⟩⟩
theorem okC_num (n : Bool) (i : Int) : okC ⟨3, n⟩ ⟨false, i, []⟩ := okC_iff.2 ⟨may_of (show (1 : Int) ≤ 3 ∧ (3 : Int) ≤ 5 by decide), .inr ⟨rfl, by simp [isC]⟩⟩
theorem bool_cases {t : TypeM} {c : CellM} (h : okC t c) (hk : t.kind = 1) : (c = cellNull ∧ t.null = true) ∨ c = flagC false ∨ c = flagC true := by
 rcases (okC_iff.1 h).2 with ⟨_, h2, h3⟩ | ⟨h1, h2⟩
 ·exact .inl ⟨h3, h2⟩
 right
 rw [hk] at h2
 unfold isC at h2
 rw [if_pos rfl] at h2
 obtain ⟨h3, h4, h5⟩ := of_decide_eq_true h2
 by_cases h0 : c.n = 0
 ·left; exact CellM.ext' h1 h0 h3
 right; exact CellM.ext' h1 (show c.n = 1 by omega) h3
theorem ok_short {t : TypeM} {c : CellM} (h : okC t c) : c.s.length ≤ 1024 := by
 rcases (okC_iff.1 h).2 with ⟨_, _, h3⟩ | ⟨h1, h2⟩
 ·rw [h3]; simp [cellNull]
 unfold isC at h2
 repeat' split at h2
 all_goals first
  | (have := of_decide_eq_true h2; omega)
  | (have h3 := of_decide_eq_true h2; first | (rw [h3.1]; simp) | (rw [h3]; simp))
theorem ok_nulls {t : TypeM} {c : CellM} (h : okC t c) (hn : c.null = true) : t.null = true ∧ c = cellNull := by
 rcases (okC_iff.1 h).2 with ⟨_, h2, h3⟩ | ⟨h1, h2⟩
 ·exact ⟨h2, h3⟩
 rw [h1] at hn; cases hn
theorem ok_wide {t t' : TypeM} {c : CellM} (h : okC t c) (hk : t'.kind = t.kind) (hn : t.null = true → t'.null = true) : okC t' c := by
 obtain ⟨h1, h2⟩ := okC_iff.1 h
 refine okC_iff.2 ⟨may_of (by rw [hk]; exact may_kind h1), ?_⟩
 rcases h2 with ⟨a, b, d⟩ | ⟨a, b⟩
 ·exact .inl ⟨a, hn b, d⟩
 exact .inr ⟨a, by rw [hk]; exact b⟩
theorem cmp_eq_zero {a b : CellM} (h : a.null = b.null) : cmpC a b = 0 ↔ a = b := by
 constructor
 ·intro e
  unfold cmpC at e
  rw [if_pos h] at e
  split at e
  ·cases e
  split at e
  ·cases e
  exact CellM.ext' h (by omega) (cmp_zero e)
 rintro rfl
 unfold cmpC
 rw [if_pos rfl, if_neg (Int.lt_irrefl _), if_neg (Int.lt_irrefl _), cmp_self]
theorem logic_eq {k : Int} {ta tb : TypeM} {a b : CellM} (ha : okC ta a) (hb : okC tb b) (hka : ta.kind = 1) (hkb : tb.kind = 1) (hk : k = 13 ∨ k = 14 ∨ k = 15) : logicG k a b = logicC k a b := by
 rcases bool_cases ha hka with ⟨rfl, _⟩ | rfl | rfl <;> rcases bool_cases hb hkb with ⟨rfl, _⟩ | rfl | rfl <;> rcases hk with rfl | rfl | rfl <;> decide
theorem logic_ok {k : Int} {ta tb : TypeM} {a b : CellM} (ha : okC ta a) (hb : okC tb b) (hka : ta.kind = 1) (hkb : tb.kind = 1) : okC ⟨1, ta.null || tb.null⟩ (logicC k a b) := by
 unfold logicC
 repeat' split
 ·exact okC_flag _ _
 ·exact okC_flag _ _
 ·rename_i h
  have : (ta.null || tb.null) = true := by
   rcases h with h | h
   ·rw [(ok_nulls ha (by rw [h]; rfl)).1]; rfl
   rw [(ok_nulls hb (by rw [h]; rfl)).1]; simp
  rw [this]
  exact okC_null ⟨by decide, by decide⟩
 ·exact okC_flag _ _
 exact okC_flag _ _
theorem null_or {ta tb : TypeM} {a b : CellM} (ha : okC ta a) (hb : okC tb b) (h : a.null = true ∨ b.null = true) : (ta.null || tb.null) = true := by
 rcases h with h | h
 ·rw [(ok_nulls ha h).1]; rfl
 rw [(ok_nulls hb h).1]; simp
theorem num_ok {ta tb : TypeM} {a b : CellM} {n : Int} (ha : okC ta a) (hb : okC tb b) : ∀ c, (if a.null = true ∨ b.null = true then some cellNull else numG n) = some c → okC ⟨3, ta.null || tb.null⟩ c ∧ fits c.n := by
 intro c hc
 split at hc
 ·rename_i h
  injection hc with hc
  subst hc
  rw [null_or ha hb h]
  exact ⟨okC_null (by decide), by decide, by decide⟩
 unfold numG at hc
 split at hc
 ·rename_i hf
  injection hc with hc
  subst hc
  have h : -9223372036854775808 ≤ n ∧ n ≤ 9223372036854775807 := of_decide_eq_true hf
  exact ⟨okC_num _ _, h⟩
 cases hc
theorem flag_fits (b : Bool) : fits (flagC b).n := by cases b <;> exact ⟨by decide, by decide⟩
theorem flag_ok {ta tb : TypeM} {a b : CellM} {f : Bool} (ha : okC ta a) (hb : okC tb b) : ∀ c, (if a.null = true ∨ b.null = true then some cellNull else some (flagC f)) = some c → okC ⟨1, ta.null || tb.null⟩ c ∧ fits c.n := by
 intro c hc
 split at hc
 ·rename_i h
  injection hc with hc
  subst hc
  rw [null_or ha hb h]
  exact ⟨okC_null (by decide), by decide, by decide⟩
 injection hc with hc
 subst hc
 exact ⟨okC_flag _ _, flag_fits _⟩
theorem logic_fits {k : Int} {a b : CellM} : fits (logicC k a b).n := by
 unfold logicC
 repeat' split
 all_goals first | exact flag_fits _ | exact ⟨by decide, by decide⟩
theorem made_typed {k : Int} {ta tb t : TypeM} {a b : CellM} (hk : 7 ≤ k ∧ k ≤ 18) (ht : madeT k ta tb = some t) (ha : okC ta a) (hb : okC tb b) (hfa : fits a.n) (hfb : fits b.n) :
    madeG k a b = madeC k a b ∧ ∀ c, madeC k a b = some c → okC t c ∧ fits c.n := by
  have hc : k = 7 ∨ k = 8 ∨ k = 9 ∨ k = 10 ∨ k = 11 ∨ k = 12 ∨ k = 13 ∨ k = 14 ∨ k = 15 ∨ k = 16 ∨ k = 17 ∨ k = 18 := by omega
  have hnum : ∀ n : Int, madeG k a b = (if a.null = true ∨ b.null = true then some cellNull else numG n) → madeC k a b = (if a.null = true ∨ b.null = true then some cellNull else numG n) → (if ta.kind = 3 ∧ tb.kind = 3 then some (⟨3, ta.null || tb.null⟩ : TypeM) else none) = some t → madeG k a b = madeC k a b ∧ ∀ c, madeC k a b = some c → okC t c ∧ fits c.n := by
    intro n h1 h2 h3
    rw [h1, h2]
    split at h3
    · injection h3 with h3
      subst h3
      exact ⟨rfl, num_ok ha hb⟩
    cases h3
  have hlog : (k = 13 ∨ k = 14 ∨ k = 15) → (if ta.kind = 1 ∧ tb.kind = 1 then some (⟨1, ta.null || tb.null⟩ : TypeM) else none) = some t → madeG k a b = madeC k a b ∧ ∀ c, madeC k a b = some c → okC t c ∧ fits c.n := by
    intro h1 h3
    split at h3
    · rename_i hkk
      injection h3 with h3
      subst h3
      have e1 : madeG k a b = some (logicG k a b) := if_pos h1
      have e2 : madeC k a b = some (logicC k a b) := if_pos h1
      rw [e1, e2, logic_eq ha hb hkk.1 hkk.2 h1]
      refine ⟨rfl, fun c hc => ?_⟩
      injection hc with hc
      subst hc
      exact ⟨logic_ok ha hb hkk.1 hkk.2, logic_fits⟩
    cases h3
  rcases hc with rfl | rfl | rfl | rfl | rfl | rfl | rfl | rfl | rfl | rfl | rfl | rfl
  · exact hnum (a.n + b.n) (by unfold madeG; simp) (by unfold madeC numG; simp) ht
  · exact hnum (a.n - b.n) (by unfold madeG; simp) (by unfold madeC numG; simp) ht
  · exact hnum (a.n * b.n) (by unfold madeG; simp) (by unfold madeC numG; simp) ht
  · exact hnum (-a.n) (by unfold madeG; simp) (by unfold madeC numG; simp) ht
  · have e2 : madeC 11 a b = (if a.null = true ∨ b.null = true then some cellNull else some (flagC (decide (cmpC a b = 0)))) := by unfold madeC; simp
    have e1 : madeG 11 a b = (if a.null = true ∨ b.null = true then some cellNull else some (flagC (decide (a = b)))) := by unfold madeG; simp
    have h3 : (if ta.kind = tb.kind then some (⟨1, ta.null || tb.null⟩ : TypeM) else none) = some t := ht
    split at h3
    · injection h3 with h3
      subst h3
      refine ⟨?_, by rw [e2]; exact flag_ok ha hb⟩
      rw [e1, e2]
      split
      · rfl
      rename_i hn
      have hz := cmp_eq_zero (a := a) (b := b) (by cases h1 : a.null <;> cases h2 : b.null <;> simp [h1, h2] at hn ⊢)
      simp only [hz]
    cases h3
  · have e2 : madeC 12 a b = (if a.null = true ∨ b.null = true then some cellNull else some (flagC (decide (cmpC a b < 0)))) := by unfold madeC; simp
    have e1 : madeG 12 a b = (if a.null = true ∨ b.null = true then some cellNull else some (flagC (decide (cmpC a b < 0)))) := by unfold madeG; simp
    have h3 : (if ta.kind = tb.kind then some (⟨1, ta.null || tb.null⟩ : TypeM) else none) = some t := ht
    split at h3
    · injection h3 with h3
      subst h3
      exact ⟨by rw [e1, e2], by rw [e2]; exact flag_ok ha hb⟩
    cases h3
  · exact hlog (by decide) ht
  · exact hlog (by decide) ht
  · exact hlog (by decide) ht
  · have e1 : madeG 16 a b = some (flagC a.null) := by unfold madeG; simp
    have e2 : madeC 16 a b = some (flagC a.null) := by unfold madeC; simp
    have h3 : some (⟨1, false⟩ : TypeM) = some t := ht
    injection h3 with h3
    subst h3
    rw [e1, e2]
    refine ⟨rfl, fun c hc => ?_⟩
    injection hc with hc
    subst hc
    exact ⟨okC_flag _ _, flag_fits _⟩
  · have e1 : madeG 17 a b = some (if a.null = true then b else a) := by unfold madeG; simp
    have e2 : madeC 17 a b = some (if a.null = true then b else a) := by unfold madeC; simp
    have h3 : (if ta.kind = tb.kind then some (⟨ta.kind, ta.null && tb.null⟩ : TypeM) else none) = some t := ht
    split at h3
    · rename_i hkk
      injection h3 with h3
      subst h3
      rw [e1, e2]
      refine ⟨rfl, fun c hc => ?_⟩
      injection hc with hc
      subst hc
      split
      · rename_i hn
        exact ⟨ok_wide hb hkk (fun h => by show (ta.null && tb.null) = true; rw [(ok_nulls ha hn).1, h]; rfl), hfb⟩
      rename_i hn
      refine ⟨okC_iff.2 ⟨may_of (may_kind (okC_iff.1 ha).1), .inr ?_⟩, hfa⟩
      rcases (okC_iff.1 ha).2 with ⟨h1, _⟩ | h2
      · exact absurd h1 hn
      exact h2
    cases h3
  have e1 : madeG 18 a b = (if a.null = true ∨ b.null = true then some cellNull else some ⟨false, a.s.length, []⟩) := by unfold madeG; simp
  have e2 : madeC 18 a b = (if a.null = true ∨ b.null = true then some cellNull else some ⟨false, a.s.length, []⟩) := by unfold madeC; simp
  have h3 : (if ta.kind = 4 ∨ ta.kind = 5 then some (⟨3, ta.null || tb.null⟩ : TypeM) else none) = some t := ht
  split at h3
  · injection h3 with h3
    subst h3
    rw [e1, e2]
    refine ⟨rfl, fun c hc => ?_⟩
    split at hc
    · rename_i h
      injection hc with hc
      subst hc
      rw [null_or ha hb h]
      exact ⟨okC_null (by decide), by decide, by decide⟩
    injection hc with hc
    subst hc
    have := ok_short ha
    exact ⟨okC_num _ _, by show (-9223372036854775808 : Int) ≤ a.s.length; omega, by show (a.s.length : Int) ≤ 9223372036854775807; omega⟩
  cases h3
end Go.Proofs.YtmkaahkbhdlniaaGreatDoor
namespace Go.Proofs.YtmkaahkbhdlniaaGreatDoor
open Go Go.Lib
theorem insertI_at : ∀ {l : List Int} {k : Nat} {id : Int}, (∀ (j : Nat) x, j < k → l[j]? = some x → x < id) → k ≤ l.length → (∀ x, l[k]? = some x → ¬ x < id) →
    insertI id l = if l[k]? = some id then l else l.take k ++ id :: l.drop k
  | [], k, id, _, hk, _ => by
    have : k = 0 := by simpa using hk
    subst this
    rfl
  | x :: l, 0, id, _, _, h => by
    have hx := h x rfl
    rw [insertI, if_neg hx]
    by_cases e : x = id
    · rw [if_pos e, if_pos (by rw [e]; rfl)]
    rw [if_neg e, if_neg (fun e2 => e (by injection e2))]
    rfl
  | x :: l, k + 1, id, h1, hk, h => by
    have hx := h1 0 x (by omega) rfl
    rw [insertI, if_pos hx, insertI_at (k := k) (fun j y hj hy => h1 (j + 1) y (by omega) hy) (by simpa using hk) (fun y hy => h y hy)]
    show _ = if l[k]? = some id then x :: l else x :: (l.take k ++ id :: l.drop k)
    split <;> rfl
theorem insertI_mem {k x : Int} : ∀ {l : List Int}, x ∈ insertI k l ↔ x = k ∨ x ∈ l
 | [] => by simp [insertI]
 | y :: l => by
  rw [insertI]
  split
  ·rw [List.mem_cons, insertI_mem, List.mem_cons]; constructor
   ·rintro (h | h | h)
    ·exact .inr (.inl h)
    ·exact .inl h
    exact .inr (.inr h)
   rintro (h | h | h)
   ·exact .inr (.inl h)
   ·exact .inl h
   exact .inr (.inr h)
  split
  ·rename_i h1 h2
   subst h2
   rw [List.mem_cons]
   constructor
   ·intro h; exact .inr h
   rintro (h | h)
   ·exact .inl h
   exact h
  rw [List.mem_cons]
theorem insertI_rises {k : Int} : ∀ {l : List Int}, l.Pairwise (· < ·) → (insertI k l).Pairwise (· < ·)
 | [], _ => by simp [insertI]
 | y :: l, h => by
  rw [insertI]
  obtain ⟨h1, h2⟩ := List.pairwise_cons.1 h
  split
  ·rename_i hy
   refine List.pairwise_cons.2 ⟨fun z hz => ?_, insertI_rises h2⟩
   rcases insertI_mem.1 hz with rfl | hz
   ·exact hy
   exact h1 z hz
  split
  ·exact h
  refine List.pairwise_cons.2 ⟨fun z hz => ?_, h⟩
  rcases List.mem_cons.1 hz with rfl | hz
  ·omega
  have := h1 z hz; omega
theorem usesS_fold {l : List StepM} : ∀ {a : List Int}, a.Pairwise (· < ·) → (l.foldl (fun a x => insertI x.n a) a).Pairwise (· < ·) ∧ ∀ k, k ∈ l.foldl (fun a x => insertI x.n a) a ↔ k ∈ a ∨ ∃ x ∈ l, x.n = k := by
 induction l with
 | nil => intro a h; exact ⟨h, fun k => by simp⟩
 | cons x l ih =>
  intro a h
  obtain ⟨h1, h2⟩ := ih (a := insertI x.n a) (insertI_rises h)
  refine ⟨h1, fun k => ?_⟩
  rw [List.foldl_cons, h2 k, insertI_mem]
  constructor
  ·rintro ((h | h) | ⟨y, hy, e⟩)
   ·exact .inr ⟨x, List.mem_cons_self, h.symm⟩
   ·exact .inl h
   exact .inr ⟨y, List.mem_cons_of_mem _ hy, e⟩
  rintro (h | ⟨y, hy, e⟩)
  ·exact .inl (.inr h)
  rcases List.mem_cons.1 hy with rfl | hy
  ·exact .inl (.inl e.symm)
  exact .inr ⟨y, hy, e⟩
theorem usesS_rises (l : List StepM) : (usesS l).Pairwise (· < ·) := (usesS_fold List.Pairwise.nil).1
theorem usesS_mem {l : List StepM} {k : Int} : k ∈ usesS l ↔ ∃ x ∈ l, x.kind = 1 ∧ x.n = k := by
 unfold usesS
 rw [(usesS_fold List.Pairwise.nil).2 k]
 simp only [List.not_mem_nil, false_or, List.mem_filter, decide_eq_true_eq, and_assoc]
theorem rises_same : ∀ {a b : List Int}, a.Pairwise (· < ·) → b.Pairwise (· < ·) → (∀ k, k ∈ a ↔ k ∈ b) → a = b
 | [], [], _, _, _ => rfl
 | [], y :: b, _, _, h => absurd ((h y).2 List.mem_cons_self) (by simp)
 | x :: a, [], _, _, h => absurd ((h x).1 List.mem_cons_self) (by simp)
 | x :: a, y :: b, h1, h2, h => by
  obtain ⟨p1, p2⟩ := List.pairwise_cons.1 h1
  obtain ⟨q1, q2⟩ := List.pairwise_cons.1 h2
  have hxy : x = y := by
   rcases List.mem_cons.1 ((h x).1 List.mem_cons_self) with e | hx
   ·exact e
   rcases List.mem_cons.1 ((h y).2 List.mem_cons_self) with e | hy
   ·exact e.symm
   have := p1 y hy
   have := q1 x hx
   omega
  subst hxy
  congr 1
  refine rises_same p2 q2 fun k => ⟨fun hk => ?_, fun hk => ?_⟩
  ·rcases List.mem_cons.1 ((h k).1 (List.mem_cons_of_mem _ hk)) with rfl | hk'
   ·exact absurd (p1 k hk) (by omega)
   exact hk'
  rcases List.mem_cons.1 ((h k).2 (List.mem_cons_of_mem _ hk)) with rfl | hk'
  ·exact absurd (q1 k hk) (by omega)
  exact hk'
theorem foldl_filter {l : List StepM} (a : List Int) : (l.filter fun x => decide (x.kind = 1)).foldl (fun a x => insertI x.n a) a = l.foldl (fun a x => if x.kind = 1 then insertI x.n a else a) a := by
 induction l generalizing a with
 | nil => rfl
 | cons x l ih =>
  rw [List.foldl_cons, List.filter_cons]
  by_cases h : x.kind = 1
  ·rw [if_pos (by simpa using h), if_pos h, List.foldl_cons, ih]
  rw [if_neg (by simpa using h), if_neg h, ih]
theorem insertI_len (k : Int) : ∀ l : List Int, (insertI k l).length ≤ l.length + 1
 | [] => by simp [insertI]
 | x :: l => by
  rw [insertI]
  have := insertI_len k l
  split
  ·simp; omega
  split <;> simp
end Go.Proofs.YtmkaahkbhdlniaaGreatDoor
