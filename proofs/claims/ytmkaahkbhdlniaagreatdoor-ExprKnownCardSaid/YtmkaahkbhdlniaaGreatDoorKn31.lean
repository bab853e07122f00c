/-
 The known expressions' columns and rows, walked.
-/
import Derived.Test.YtmkaahkbhdlniaaGreatDoorKn30
set_option linter.unusedVariables false
set_option linter.unusedSimpArgs false
namespace Go.Proofs.YtmkaahkbhdlniaaGreatDoor
open Go Go.Mw Go.Lib
set_option maxRecDepth 4000
theorem bring_eq {k m : Int} (hm : 0 < m) : k % m = if k.tmod m < 0 then k.tmod m + m else k.tmod m := by
 have h := Int.mul_tdiv_add_tmod k m
 have h1 := Int.tmod_lt_of_pos k hm
 have h2 := Int.lt_tmod_of_pos k hm
 have e : k % m = (k.tmod m) % m := by
  have := Int.mul_add_emod_self_left m (k.tdiv m) (k.tmod m)
  rw [h] at this
  exact this
 rw [e]
 split
 ·rw [← Int.add_emod_right]; exact Int.emod_eq_of_lt (by omega) (by omega)
 exact Int.emod_eq_of_lt (by omega) (by omega)
section
variable {w : World}
theorem bring_ok {k m : Int} (h0 : 0 < m) (hm : m ≤ 4294967296) : Rets Tryz.prog 32 [I k, I m] w fun v w' => v = I (k % m) ∧ Kept noB w w' := by
 have H := Sep.start0 w
 have h1 := Int.tmod_lt_of_pos k h0
 have h2 := Int.lt_tmod_of_pos k h0
 have he := bring_eq (k := k) h0
 refine rets2 Tryz.func32 rfl rfl rfl rfl ?_
 refine Sr (Am ?_)
 refine Nx (Mv ?_)
 refine Mv ?_
 refine Vv (Gives.rem rfl rfl (by omega)) (Am ?_)
 refine Qn (FW_seq (Sr (Mv ?_)))
 refine Vl ?_
 refine Qn (Cp rfl (fun hc8 => ?_) (fun hc8 => ?_))
 ·refine FW_region (Mv ?_)
  refine Mv ?_
  refine Vv (Gives.addI (c := k.tmod m + m) rfl rfl rfl (by omega)) (Am ?_)
  refine Nx (Mv ?_)
  refine Am ?_
  refine Qn (FW_ret (Qfn_ret (hR := ?_)))
  exact ⟨by rw [he]; first | (rw [if_pos (by assumption)]; rfl) | (rw [if_neg (by assumption)]; rfl), H.kept⟩
 refine Sk (Sr (Mv ?_))
 refine Am ?_
 refine Qn (FW_ret (Qfn_ret (hR := ?_)))
 exact ⟨by rw [he]; first | (rw [if_pos (by assumption)]; rfl) | (rw [if_neg (by assumption)]; rfl), H.kept⟩
theorem columns_ok (b : Bool) : Rets Tryz.prog 29 [.bool b] w fun v w' => ∃ x : Value, v = x ∧ True ∧ Turn noB (rowD 74 7 colCells x (colsS b)) w w' := by
 have H := Sep.start0 w
 refine rets1 Tryz.func29 rfl rfl rfl rfl ?_
 refine Sr (Am ?_)
 refine Nx (Am ?_)
 refine Qn (FW_cut (fun _ : Unit => [(0, .bool b), (2, .slice none 0 0), (3, I (wholeK b))]) (fun _ w' => Sep w noB [] w') ?_ ?_)
 ·refine Sr (Mv ?_)
  refine Qn (Cd rfl (fun hc5 => ?_) (fun hc5 => ?_))
  ·subst hc5
   refine FW_region (Am ?_)
   refine FL_nil ?_
   exact Qcut_normal () ⟨rfl, rfl, rfl, trivial⟩ H
  subst hc5
  refine FW_skip ?_
  exact Qcut_normal () ⟨rfl, rfl, rfl, trivial⟩ H
 rintro _ τ w12 H12
 simp only [upds, like, upd_ds, und_ds]
 refine Sr (Am ?_)
 refine Nx (Mv ?_)
 refine FL_buildSlice H12 (xs := [.tmp 8, _, _, _, _]) (out := (kindsS b).flatMap intCells) (Elems.one rfl rfl (Elems.one rfl rfl (Elems.one rfl rfl (Elems.one rfl rfl (Elems.one rfl rfl Elems.nil))))) rfl rfl rfl (fun bk w16 H16 k15 => ?_)
 refine Am ?_
 refine Qn (FW_seq (Sr (Am ?_)))
 refine Qn (FW_block ?_)
 have H20 := Sep.nilD H16 74 7 colCells
 refine FW_loop' (fun x : Nat × Value => [(2, .slice none 0 0), (4, x.2), (5, .slice (some ⟨bk, 0, none⟩) 5 5), (6, I x.1)]) (fun x w' => x.1 ≤ 10 ∧ Sep w noB [rowD 74 7 colCells x.2 ((List.range x.1).map (colAt b)), blk bk ((kindsS b).flatMap intCells) 3] w') (fun x _ => 10 - x.1) (0, .slice none 0 0) ⟨rfl, rfl, rfl, rfl, trivial⟩ ⟨Nat.zero_le _, H20⟩ (fun x τ w20 hI => ?_)
 obtain ⟨i, v0⟩ := x
 obtain ⟨hi, H20⟩ := hI
 dsimp only at hi H20
 try simp only [upds, like, upd_ds]
 refine FW_seq (Sr (Mv ?_))
 refine Vl ?_
 refine Qn (Cp rfl (fun hc23 => ?_) (fun hc23 => ?_))
 ·have hlt : i < 10 := by omega
  have h5 : i % 5 < (kindsS b).length := Nat.mod_lt _ (by decide)
  have hRb : Rd w20 (some ⟨bk, 0, none⟩) intCells 1 (kindsS b) := Sep.blkRow H20 At1 rfl
  refine Sk (FW_seq (FW_block (FW_region (Mv ?_))))
  refine Mv ?_
  refine Vv (Gives.addI (c := ((i + 1 : Nat) : Int)) rfl rfl (by omega) (by omega)) (Mv ?_)
  refine Mv ?_
  refine Vv (Gives.remN (b := 5) rfl rfl (by omega)) (Vv (Gives.idxR (l := kindsS b) (enc := intCells) rfl rfl hRb h5) ?_)
  refine Vv (Gives.loadW (f := 0) rfl hRb (kindsS_get b i) rfl) (Mv ?_)
  refine Vg ?_
  refine Vv (Gives.build (out := typeCells ⟨kindAt b i, decide ((4 : Int) < i)⟩) (Fills.one rfl rfl rfl (by simp) rfl (Fills.one rfl rfl rfl (by simp) rfl Fills.nil))) (Vv (Gives.build (out := colCells (colAt b i)) (Fills.one rfl rfl rfl (by simp) rfl (Fills.many (us := typeCells ⟨kindAt b i, decide ((4 : Int) < i)⟩) rfl rfl (Nat.le_of_ble_eq_true rfl) rfl Fills.nil))) ?_)
  refine FL_buildSlice H20 (xs := [.tmp 25]) (out := [colAt b i].flatMap colCells) (Elems.many rfl rfl Elems.nil) rfl rfl rfl (fun bs w38 H38 k37 => ?_)
  have hln : ((List.range i).map (colAt b)).length = i := by simp
  refine FL_appendD H38 (news := [colAt b i]) At0 (by unfold maxLen; rw [hln]; simp; omega) (by rw [hln]; simp; omega) (cells_one (fun _ => rfl) _) (h := ?_)
  intro v2 w40 H40
  refine Am ?_
  refine FL_nil (Qblk_normal (Qseq_normal (FW_region (Mv ?_))))
  refine Vv (Gives.addI (c := ((i + 1 : Nat) : Int)) rfl rfl (by omega) (by omega)) (Am ?_)
  refine FL_nil ?_
  exact Qround_normal (i + 1, v2) ⟨rfl, rfl, rfl, rfl, trivial⟩ ⟨by dsimp only; omega, by dsimp only; rw [List.range_succ, List.map_append]; exact H40⟩ (by dsimp only; omega)
 have h10 : i = 10 := by omega
 subst h10
 refine FW_exit (Qseq_exit (Qround_exit (Qblk_exit (Qseq_normal (Sr (Mv ?_))))))
 refine Am ?_
 refine Qn (FW_ret (Qfn_ret (hR := ?_)))
 exact ⟨_, rfl, trivial, (H20.firsts (l := [_])).turn⟩
theorem rowOf_ok {l : List Int} {v : Value} (hl : RowIn w v intCells 1 l) (hx : ∀ x ∈ l, fits x) : Rets Tryz.prog 30 [v] w fun v' w' => ∃ x : Value, v' = x ∧ True ∧ Turn noB (rowD 34 3 cellCells x (rowS l)) w w' := by
 obtain ⟨A, m, rfl, ⟨hm, hm'⟩, hA⟩ := hl
 have H := Sep.start0 w
 refine rets1 Tryz.func30 rfl rfl rfl rfl ?_
 refine Sr (Am ?_)
 refine Nx (Am ?_)
 refine Qn (FW_seq (Sr (Am ?_)))
 refine Qn (FW_block ?_)
 have H5 := Sep.nilD H 34 3 cellCells
 refine FW_loop' (fun x : Nat × Value => [(0, .slice A l.length m), (2, .slice none 0 0), (3, x.2), (4, I x.1)]) (fun x w' => x.1 ≤ 10 ∧ Sep w noB [rowD 34 3 cellCells x.2 ((List.range x.1).map (cellAt l))] w') (fun x _ => 10 - x.1) (0, .slice none 0 0) ⟨rfl, rfl, rfl, rfl, trivial⟩ ⟨Nat.zero_le _, H5⟩ (fun x τ w5 hI => ?_)
 obtain ⟨i, v0⟩ := x
 obtain ⟨hi, H5⟩ := hI
 dsimp only at hi H5
 obtain ⟨r, hr⟩ : ∃ r, r = (List.range i).map (cellAt l) := ⟨_, rfl⟩
 have hrl : r.length = i := by rw [hr]; simp
 rw [← hr] at H5
 try simp only [upds, like, upd_ds, und_ds]
 refine FW_seq (Sr (Mv ?_))
 refine Vl ?_
 refine Qn (Cp rfl (fun hc8 => ?_) (fun hc8 => ?_))
 ·have hlt : i < 10 := by omega
  refine Sk (FW_seq (FW_block (Sr (Mv ?_))))
  refine Am ?_
  refine Qn (FW_cut (fun _ : Unit => [(0, .slice A l.length m), (2, .slice none 0 0), (3, v0), (4, I i), (5, I (seedNum l i))]) (fun _ w' => Sep w noB [rowD 34 3 cellCells v0 r] w') ?_ ?_)
  ·refine Sr (Mv ?_)
   refine Vs ?_
   refine Vg ?_
   refine Qn (Cp rfl (fun hc16 => ?_) (fun hc16 => ?_))
   ·have hl0 : 0 < l.length := by omega
    have hlm : i % l.length < l.length := Nat.mod_lt _ hl0
    obtain ⟨y, hy⟩ := get_some hlm
    have hnum : seedNum l i = y := by unfold seedNum; rw [if_pos hl0, getD_of hy]
    refine FW_region (Mv ?_)
    refine Mv ?_
    refine Mv ?_
    refine Vs ?_
    refine Vv (Gives.remN (b := l.length) rfl rfl (by omega)) (Vv (Gives.idxR (l := l) (enc := intCells) rfl rfl (hA.keep H5.kept) hlm) ?_)
    refine Vv (Gives.loadW (f := 0) rfl (hA.keep H5.kept) hy rfl) (Am ?_)
    refine FL_nil ?_
    exact Qcut_normal () ⟨rfl, rfl, rfl, rfl, congrArg I hnum.symm, trivial⟩ H5
   have hnum : seedNum l i = i := by unfold seedNum; rw [if_neg (by omega)]
   refine FW_skip ?_
   exact Qcut_normal () ⟨rfl, rfl, rfl, rfl, congrArg I hnum.symm, trivial⟩ H5
  rintro _ τ w30 H30
  obtain ⟨k, hk⟩ : ∃ k, k = seedNum l i := ⟨_, rfl⟩
  rw [← hk]
  simp only [upds, like, upd_ds]
  refine Sr (Mv ?_)
  refine FL_callQ H30 (bring_ok (k := k) (m := 4294967296) (by decide) (by decide)) (h := fun w33 H33 k32 => ?_)
  obtain ⟨r1, hr0⟩ : ∃ r, r = k % 4294967296 := ⟨_, rfl⟩
  rw [← hr0]
  refine Vv (Gives.subI (c := r1 - 2147483648) rfl rfl rfl (by omega)) (Vv (Gives.build (out := cellCells ⟨false, r1 - 2147483648, []⟩) (Fills.one rfl rfl rfl (by simp) rfl Fills.nil)) ?_)
  refine FL_alloc H33 (h := fun b1 w37 H37 k36 => ?_)
  refine FL_storeAll H37 (h := fun w39 H39 => ?_)
  refine Qn (FW_cut (fun _ : CellM => [(0, .slice A l.length m), (2, .slice none 0 0), (3, v0), (4, I i), (5, I k), (6, .pointer (some ⟨b1, 0, none⟩))]) (fun c w' => c = baseAt i k ∧ Sep w noB [blk b1 (cellCells c) 34, rowD 34 3 cellCells v0 r] w') ?_ ?_)
  ·refine Sr (Mv ?_)
   refine Vv (Gives.remN (b := 5) rfl rfl (by omega)) (Qn ?_)
   refine FW_block (Sr (Ve ?_))
   refine Am ?_
   refine Qn (Cp rfl (fun hc45 => ?_) (fun hc45 => ?_))
   ·have hm : i % 5 = 1 := by omega
    refine FW_region (Mv ?_)
    refine FL_callQ H39 (bring_ok (k := k) (m := 2) (by decide) (by decide)) (h := fun w49 H49 k48 => ?_)
    obtain ⟨r2, hr2⟩ : ∃ r, r = k % 2 := ⟨_, rfl⟩
    rw [← hr2]
    have fc : (⟨false, r2, []⟩ : CellM) = baseAt i k := by unfold baseAt; rw [if_pos hm, hr2]
    refine Vv (Gives.build (out := cellCells ⟨false, r2, []⟩) (Fills.one rfl rfl rfl (by simp) rfl Fills.nil)) (FL_storeAll H49 (h := fun w52 H52 => ?_))
    refine FL_nil (Qblk_normal ?_)
    exact Qcut_normal _ ⟨rfl, rfl, rfl, rfl, rfl, rfl, trivial⟩ ⟨fc, H52⟩
   have q1 := hc45
   refine Sr (Ve ?_)
   refine Am ?_
   refine Qn (Cp rfl (fun hc57 => ?_) (fun hc57 => ?_))
   ·have hm : i % 5 = 2 := by omega
    refine FW_region (FL_buildSlice H39 (xs := [_, _, _, _, _]) (out := rowWords1.flatMap textCells) (Elems.one rfl rfl (Elems.one rfl rfl (Elems.one rfl rfl (Elems.one rfl rfl (Elems.one rfl rfl Elems.nil))))) rfl rfl rfl (fun bw w60 H60 k59 => ?_))
    refine Mv ?_
    refine FL_callQ H60 (bring_ok (k := k) (m := 5) (by decide) (by decide)) (h := fun w63 H63 k62 => ?_)
    obtain ⟨q, hq0⟩ : ∃ q : Nat, k % 5 = q := ⟨(k % 5).toNat, by omega⟩
    rw [hq0]
    have hq : q < rowWords1.length := by show q < 5; omega
    obtain ⟨y, hy⟩ := get_some hq
    have hRb : Rd w63 (some ⟨bw, 0, none⟩) textCells 1 rowWords1 := Sep.blkRow H63 At0 rfl
    refine Vv (Gives.idxR (l := rowWords1) (enc := textCells) rfl rfl hRb hq) (Vv (Gives.loadW (f := 0) rfl hRb hy rfl) ?_)
    have H67 := H63.drop0
    refine Vv (Gives.build (out := cellCells ⟨false, 0, y⟩) (Fills.one rfl rfl rfl (by simp) rfl Fills.nil)) ?_
    have fc : (⟨false, 0, y⟩ : CellM) = baseAt i k := by unfold baseAt; rw [if_neg (by omega), if_pos hm, hq0, Int.toNat_natCast, getD_of hy]
    refine FL_storeAll H67 (h := fun w69 H69 => ?_)
    refine FL_nil (Qblk_normal ?_)
    exact Qcut_normal _ ⟨rfl, rfl, rfl, rfl, rfl, rfl, trivial⟩ ⟨fc, H69⟩
   have q2 := hc57
   refine Sr (Ve ?_)
   refine Am ?_
   refine Qn (Cp rfl (fun hc74 => ?_) (fun hc74 => ?_))
   ·have hm : i % 5 = 3 := by omega
    refine FW_region (FL_buildSlice H39 (xs := [_, _, _, _]) (out := rowWords2.flatMap textCells) (Elems.one rfl rfl (Elems.one rfl rfl (Elems.one rfl rfl (Elems.one rfl rfl Elems.nil)))) rfl rfl rfl (fun bw w77 H77 k76 => ?_))
    refine Mv ?_
    refine FL_callQ H77 (bring_ok (k := k) (m := 4) (by decide) (by decide)) (h := fun w80 H80 k79 => ?_)
    obtain ⟨q, hq0⟩ : ∃ q : Nat, k % 4 = q := ⟨(k % 4).toNat, by omega⟩
    rw [hq0]
    have hq : q < rowWords2.length := by show q < 4; omega
    obtain ⟨y, hy⟩ := get_some hq
    have hRb : Rd w80 (some ⟨bw, 0, none⟩) textCells 1 rowWords2 := Sep.blkRow H80 At0 rfl
    refine Vv (Gives.idxR (l := rowWords2) (enc := textCells) rfl rfl hRb hq) (Vv (Gives.loadW (f := 0) rfl hRb hy rfl) ?_)
    have H84 := H80.drop0
    refine Vv (Gives.build (out := cellCells ⟨false, 0, y⟩) (Fills.one rfl rfl rfl (by simp) rfl Fills.nil)) ?_
    have fc : (⟨false, 0, y⟩ : CellM) = baseAt i k := by unfold baseAt; rw [if_neg (by omega), if_neg (by omega), if_pos hm, hq0, Int.toNat_natCast, getD_of hy]
    refine FL_storeAll H84 (h := fun w86 H86 => ?_)
    refine FL_nil (Qblk_normal ?_)
    exact Qcut_normal _ ⟨rfl, rfl, rfl, rfl, rfl, rfl, trivial⟩ ⟨fc, H86⟩
   have q3 := hc74
   refine Sr (Ve ?_)
   refine Am ?_
   refine Qn (Cp rfl (fun hc91 => ?_) (fun hc91 => ?_))
   ·have hm : i % 5 = 4 := by omega
    refine FW_region (Mv ?_)
    refine Vv (Gives.build (out := cellCells ⟨false, k, []⟩) (Fills.one rfl rfl rfl (by simp) rfl Fills.nil)) ?_
    have fc : (⟨false, k, []⟩ : CellM) = baseAt i k := by unfold baseAt; rw [if_neg (by omega), if_neg (by omega), if_neg (by omega), if_pos hm]
    refine FL_storeAll H39 (h := fun w96 H96 => ?_)
    refine FL_nil (Qblk_normal ?_)
    exact Qcut_normal _ ⟨rfl, rfl, rfl, rfl, rfl, rfl, trivial⟩ ⟨fc, H96⟩
   have fc : (⟨false, r1 - 2147483648, []⟩ : CellM) = baseAt i k := by unfold baseAt; rw [if_neg (by omega), if_neg (by omega), if_neg (by omega), if_neg (by omega), hr0]
   refine FW_skip (Qblk_normal ?_)
   exact Qcut_normal _ ⟨rfl, rfl, rfl, rfl, rfl, rfl, trivial⟩ ⟨fc, H39⟩
  rintro c τ w101 ⟨hc, H101⟩
  simp only [upds, like, upd_ds]
  refine FW_cut (fun _ : CellM => [(0, .slice A l.length m), (2, .slice none 0 0), (3, v0), (4, I i), (6, .pointer (some ⟨b1, 0, none⟩))]) (fun c w' => c = cellAt l i ∧ Sep w noB [blk b1 (cellCells c) 34, rowD 34 3 cellCells v0 r] w') ?_ ?_
  ·refine Sr (Mv ?_)
   refine Vg ?_
   refine Mv ?_
   refine FL_splitP (t := 55) rfl (fun hs106 => ?_) (fun hs106 => ?_)
   ·have h4 := hs106
    refine On (Mv ?_)
    refine On (Vv (Gives.rem rfl rfl (by decide)) (On ?_))
    refine Ve ?_
    refine Pt ?_
    refine Qn (Cp rfl (fun hc112 => ?_) (fun hc112 => ?_))
    ·have h3 := hc112
     refine FW_region (Vv (Gives.build (out := cellCells cellNull) (Fills.one rfl rfl rfl (by simp) rfl Fills.nil)) ?_)
     have fd : cellNull = cellAt l i := by unfold cellAt; rw [← hk, if_pos ⟨h4, h3⟩]
     refine FL_storeAll H101 (h := fun w116 H116 => ?_)
     refine FL_nil ?_
     exact Qcut_normal _ ⟨rfl, rfl, rfl, rfl, rfl, trivial⟩ ⟨fd, H116⟩
    have fd : c = cellAt l i := by unfold cellAt; rw [← hk, if_neg (fun h => hc112 h.2)]; exact hc
    refine FW_skip ?_
    exact Qcut_normal _ ⟨rfl, rfl, rfl, rfl, rfl, trivial⟩ ⟨fd, H101⟩
   have fd : c = cellAt l i := by unfold cellAt; rw [← hk, if_neg (fun h => hs106 h.1)]; exact hc
   refine Of (Of (Of (Pf ?_)))
   refine Qn (FW_cond_false rfl ?_)
   refine FW_skip ?_
   exact Qcut_normal _ ⟨rfl, rfl, rfl, rfl, rfl, trivial⟩ ⟨fd, H101⟩
  rintro c τ w124 ⟨hc, H124⟩
  simp only [upds, like, upd_ds]
  refine FW_region (Mv ?_)
  refine FL_loadAll H124 (h := ?_)
  refine FL_buildSlice H124 (xs := [.tmp 62]) (out := [c].flatMap cellCells) (Elems.many rfl rfl Elems.nil) rfl rfl rfl (fun bs w128 H128 k127 => ?_)
  refine FL_appendD H128 (news := [c]) At1 (by unfold maxLen; simp; omega) (by simp; omega) (cells_one (fun _ => rfl) _) (h := ?_)
  intro v2 w130 H130
  refine Am ?_
  refine FL_nil (Qblk_normal (Qseq_normal (FW_region (Mv ?_))))
  refine Vv (Gives.addI (c := ((i + 1 : Nat) : Int)) rfl rfl (by omega) (by omega)) (Am ?_)
  refine FL_nil ?_
  exact Qround_normal (i + 1, v2) ⟨rfl, rfl, rfl, rfl, trivial⟩ ⟨by dsimp only; omega, by dsimp only; rw [List.range_succ, List.map_append, ← hr, List.map_cons, List.map_nil, ← hc]; exact H130.drop0⟩ (by dsimp only; omega)
 have h10 : i = 10 := by omega
 subst h10
 rw [hr] at H5
 refine FW_exit (Qseq_exit (Qround_exit (Qblk_exit (Qseq_normal (Sr (Mv ?_))))))
 refine Am ?_
 refine Qn (FW_ret (Qfn_ret (hR := ?_)))
 exact ⟨_, rfl, trivial, H5.turn⟩
end
end Go.Proofs.YtmkaahkbhdlniaaGreatDoor
namespace Go.Mw
open Go.RowKit
section
variable {P : Program} {r : Option Nat} {n : Nat} {ops : Array Oper} {Q : Post} {rest : List Oper} {σ : St} {w w₀ : World} {S : Nat → Prop} {rs : List HP} {put : HP → List HP} {ty : TypeId} {pos : String} {after : Array Edge} {p q : HP}
end
end Go.Mw
namespace Go.Proofs.YtmkaahkbhdlniaaGreatDoor
open Go Go.Mw Go.Lib
set_option maxRecDepth 4000
def SufV (v v' : Value) : Prop := ∀ (w : World) ns, RowIn w v intCells 1 ns → ∃ ns', RowIn w v' intCells 1 ns'
theorem SufV.refl (v : Value) : SufV v v := fun _ ns h => ⟨ns, h⟩
theorem SufV.trans {a b c : Value} (h : SufV a b) (k : SufV b c) : SufV a c := fun w ns h1 => let ⟨ns', h2⟩ := h w ns h1; k w ns' h2
section
variable {w : World} {F : Nat → Prop} {b : Nat} {v0 : Value}
end
section
variable {w : World} {F : Nat → Prop} {b : Nat} {v0 : Value}
end
section
variable {w : World}
end
end Go.Proofs.YtmkaahkbhdlniaaGreatDoor
namespace Go.Mw
open Go.RowKit
section
variable {P : Program} {r : Option Nat} {n : Nat} {ops : Array Oper} {Q : Post} {rest : List Oper} {σ : St} {w w₀ : World} {S : Nat → Prop} {rs : List HP} {put : HP → List HP} {ty : TypeId} {pos : String} {after : Array Edge} {lv : List Bool} {pd : List (Nat × Bool)} {guard : Option (Nat × Bool)}
variable {α : Type} {enc : α → List Value} {k e c : Nat} {l : List α} {A : Option Addr}
theorem flat_setN (hk : ∀ x, (enc x).length = k) (a' : α) : ∀ {l : List α} {i : Nat}, i < l.length → (l.flatMap enc).take (i * k) ++ enc a' ++ (l.flatMap enc).drop (i * k + k) = (l.set i a').flatMap enc
 | [], _, h => absurd h (by simp)
 | x :: l, 0, _ => by
  rw [Nat.zero_mul, List.take_zero, List.nil_append, Nat.zero_add, List.set_cons_zero, List.flatMap_cons, List.flatMap_cons, List.drop_left' (hk x)]
 | x :: l, i + 1, h => by
  have ih := flat_setN hk a' (l := l) (i := i) (by simpa using h)
  have hx := hk x
  rw [List.set_cons_succ, List.flatMap_cons, List.flatMap_cons, List.take_append, List.take_of_length_le (by rw [hx, Nat.succ_mul]; omega), List.drop_append, List.drop_of_length_le (by rw [hx, Nat.succ_mul]; omega), hx, show (i + 1) * k - k = i * k by rw [Nat.succ_mul]; omega, show (i + 1) * k + k - k = i * k + k by rw [Nat.succ_mul]; omega, List.nil_append, List.append_assoc, List.append_assoc, ← List.append_assoc ((l.flatMap enc).take (i * k)), ih]
theorem acts_storeDN {ρ : Operand → Value} {x y : Operand} {T : TypeId} [h1 : Agg P T k] [hk : EncK enc k] {i : Nat} (a' : α) {m : Nat} (hm : m = l.length) (H : Sep w₀ S rs w) (hat : At rs (rowD e k enc (.slice A m c) l) put) (hi : i < l.length) (hx : ρ x = adr A (i * k)) (hy : ρ y = .agg (enc a').toArray) (hv : (enc a').all Value.oneCell' = true) :
    ∃ w', Acts P ρ (.store T x y) ty w w' ∧ Sep w₀ S (put (rowD e k enc (.slice A m c) (l.set i a'))) w' := by
  subst hm
  obtain ⟨F, hp, hS, hput⟩ := H.focus hat
  have H0 := Sep.start1 hp
  obtain ⟨g, c', rest, hvv, hlen, hxl, hle, hmx, H1⟩ := H0.rowOpen At0 (by omega)
  injection hvv with hA _ hc
  subst hA; subst hc
  have hb := H1.obj At0
  have hfl := flat_len hk.len l
  have hu : (enc a').length = k := hk.len a'
  have hle2 : (i + 1) * k ≤ l.length * k := Nat.mul_le_mul_right k hi
  rw [Nat.succ_mul] at hle2
  have hst := run_storeCells_at P g (i * k) e (enc a') 0 (l.flatMap enc ++ rest).toArray w hb (by simp only [List.size_toArray, List.length_append, hfl, hu]; omega) (fun u hu => List.all_eq_true.1 hv u hu)
  have hs : (l.flatMap enc ++ rest).take (i * k) ++ enc a' ++ (l.flatMap enc ++ rest).drop (i * k + (enc a').length) = (l.set i a').flatMap enc ++ rest := by
    rw [hu, List.take_append_of_le_length (by rw [hfl]; omega), List.drop_append_of_le_length (by rw [hfl]; omega), ← flat_setN hk.len a' hi]
    simp only [List.append_assoc]
  have hkk : Kept (fun z => z = g) w (w.setRow g ((l.set i a').flatMap enc ++ rest).toArray) := ⟨rfl, rfl, rfl, by simp, fun j hj hS => by simp only [World.setRow, Array.getElem?_modify]; rw [if_neg (fun e => hS e.symm)]⟩
  have ho' : (w.setRow g ((l.set i a').flatMap enc ++ rest).toArray).heap[g]? = some (.cells ((l.set i a').flatMap enc ++ rest).toArray e (0, 0)) := by
    simp only [World.setRow, Array.getElem?_modify, if_true, hb, Option.map_some]
  have H3 : Sep w F [blk g ((l.set i a').flatMap enc ++ rest) e] _ := H1.setObj (At0 (p := blk g (l.flatMap enc ++ rest) e) (l := [])) hkk ho'
  have hfl2 := flat_len hk.len (l.set i a')
  rw [List.length_set] at hfl2
  have H4 := H3.rowShut (n := l.length) (c := c) At0 (by rw [List.length_append, hfl2]; rw [List.length_append, hfl] at hlen; exact hlen) hfl2 hle hmx
  refine ⟨w.setRow g ((l.set i a').flatMap enc ++ rest).toArray, fun _ _ _ _ => ?_, ?_⟩
  · have hx' : ρ x = .pointer (some ⟨g, i * k, none⟩) := by rw [hx]; show Value.pointer (some (Addr.add ⟨g, 0, none⟩ (i * k))) = _; rw [Addr.add_lit, Nat.zero_add]
    have hst2 := hst
    simp only [Nat.add_zero] at hst2
    rw [hs] at hst2
    simp [execOp, hx', hy, Instr.storeAt, Instr.sureAddr, storeVar, h1.size, Value.cells, hu]
    rw [hst2]
    simp
  obtain ⟨h5, F5, h6, h7⟩ := H4
  refine hput _ F5 _ h5 ?_ fun b hb => h7 b hb
  have h8 := starL_one.1 h6
  show (rowH e k (.slice (some ⟨g, 0, none⟩) l.length c) (l.set i a').length ((l.set i a').flatMap enc)).ok F5 _
  rw [List.length_set]
  exact h8
end
end Go.Mw
namespace Go.Proofs.YtmkaahkbhdlniaaGreatDoor
open Go Go.Mw Go.Lib
set_option maxRecDepth 4000
theorem RowTo.set {m i : Nat} {r : List CellM} {c : CellM} (h : RowTo m r) (hc : fits c.n ∧ ∀ b, okC (colAt b i).type c) : RowTo m (r.set i c) := by
 refine ⟨by rw [List.length_set]; exact h.len, fun y hy => ?_, fun b j d hd => ?_⟩
 ·rcases List.mem_or_eq_of_mem_set hy with h1 | h1
  ·exact h.fit y h1
  rw [h1]; exact hc.1
 by_cases hj : i = j
 ·subst hj
  rw [List.getElem?_set_self' ] at hd
  cases hg : r[i]? with
  | none => rw [hg] at hd; cases hd
  | some z => rw [hg] at hd; simp at hd; rw [← hd]; exact hc.2 b
 rw [List.getElem?_set_ne hj] at hd; exact h.ok b j d hd
section
variable {w : World}
end
section
variable {w : World}
end
def hi0 (k a b : Int) : Int := if k = 8 then a / 4294967296 - b / 4294967296 else a / 4294967296 + b / 4294967296
section
variable {w : World}
end
section
variable {w : World}
end
section
variable {w : World}
end
end Go.Proofs.YtmkaahkbhdlniaaGreatDoor
namespace Go.Mw
open Go.RowKit
section
variable {P : Program} {r : Option Nat} {n : Nat} {ops : Array Oper} {Q : Post} {rest : List Oper} {σ : St} {w w₀ : World} {S : Nat → Prop} {rs : List HP} {put : HP → List HP} {ty : TypeId} {pos : String} {after : Array Edge} {lv : List Bool} {pd : List (Nat × Bool)} {guard : Option (Nat × Bool)}
theorem step_callN (hok : okOps n ops = true) (e : Nat) (pd' : List (Nat × Bool)) {d : Nat} {f : FuncId} {xs : List Operand} {ats : Array TypeId} {vals : List Value} {α : Type} {val : α → Value} {φ : α → Prop} {q : α → HP} [he : Enters P f] (H : Sep w₀ S rs w)
    (hc : Rets P f vals w fun v w' => ∃ x, v = val x ∧ φ x ∧ Turn noB (q x) w w')
    (ho : ops[e]? = some { dst := some d, op := .call { callee := .value (.func f), args := xs.toArray, argTypes := ats }, type := ty, pos := pos, after := after, guard := guard } := by exact rfl)
    (hw : Region.wanted { dst := some d, op := .call { callee := .value (.func f), args := xs.toArray, argTypes := ats }, type := ty, pos := pos, after := after, guard := guard } (yieldF ops σ) = true := by kernel_rfl) (hv : xs.map (evF σ) = vals := by exact rfl) (hck : effectIn ops lv (pd.map (·.1)) e = true := by kernel_rfl)
    (hpd : pd.filter (fun p => !((above ops e).contains p.1)) = pd' := by kernel_rfl) (h : ∀ x w', φ x → Sep w₀ S (q x :: rs) w' → Kept noB w w' → Stab P ops (upd σ d (val x)) w' pd' ∧ FG P r n ops Q (lv.set e true) pd' (upd σ d (val x)) w') : EffStep P r n ops Q lv pd σ w e := by
  refine step_call hok e pd' ho hw hc hv hck hpd fun v' w' ⟨x, h1, hφ, hk, F', hq, hs⟩ => ?_
  subst h1
  exact h x w' hφ (H.new hk hq fun b hb => (hs b hb).resolve_left id) hk
theorem Gives.makeZ {ρ : Operand → Value} {x y : Operand} {t e : TypeId} [hs : IsSlice P t e] {size bytes : Nat} [hc : Cells P e size bytes] {z : Value} [hz : Zero P e z] {k : Nat} {cs : List Value} (hx : ρ x = .int .i64 k) (hy : ρ y = .int .i64 k) (hcs : madeCells z.cells (k * size) = cs.toArray) (hb : bytes * k ≤ 281474976710656) (hk : k ≤ maxLen) :
    Gives P ρ (.makeSlice t x y) ty w (.slice (some ⟨w.heap.size, 0, none⟩) k k) (w.alloc (.cells cs.toArray e)) := fun _ _ _ _ => by
  obtain ⟨i, hi, hsb⟩ := Option.map_eq_some_iff.1 hc.size
  simp only [Prod.mk.injEq] at hsb
  have hzero : i.zero = some z := by
    have := hz.run w
    simp [zeroValue, typeInfo, hi] at this
    cases hq : i.zero with
    | none => simp [hq] at this
    | some u => simp [hq] at this; rw [this]
  have hrun := run_make (P := P) w t e i z hs.und hi hzero .i64 .i64 (k : Int) (k : Int) (by omega) (by omega) (by rw [hsb.2, ← Int.natCast_mul]; generalize bytes * k = q at hb ⊢; omega) (by unfold maxLen at hk; omega)
  rw [Int.toNat_natCast, hsb.1, hcs] at hrun
  simp only [execOp, hx, hy, Sem.run_bind, hrun, Result.andThen_ok, Sem.run_pure]
theorem FL_makeZ {d : Nat} {x y : Operand} {t e : TypeId} [hs : IsSlice P t e] {size bytes : Nat} [hc : Cells P e size bytes] {z : Value} [hz : Zero P e z] {k : Nat} {cs : List Value} (H : Sep w₀ S rs w) (hcs : madeCells z.cells (k * size) = cs.toArray) (hk : k ≤ maxLen) (hb : bytes * k ≤ 281474976710656) (hx : evF σ x = .int .i64 k := by exact rfl) (hy : evF σ y = .int .i64 k := by exact rfl) (hd : Nat.blt d n = true := by exact rfl)
    (h : ∀ b w', Sep w₀ S (blk b cs e :: rs) w' → Kept noB w w' → FL P r n ops Q rest (upd σ d (.slice (some ⟨b, 0, none⟩) k k)) w') :
    FL P r n ops Q ({ dst := some d, op := .makeSlice t x y, type := ty, pos := pos, after := after, guard := none } :: rest) σ w :=
  FL_val (Gives.makeZ hx hy hcs hb hk) hd (h _ _ (H.alloc _) (Kept.alloc _ _))
theorem FL_storeDN {α : Type} {enc : α → List Value} {k e c : Nat} {l : List α} {A : Option Addr} {x y : Operand} {T : TypeId} [h1 : Agg P T k] [hk : EncK enc k] {i : Nat} (a' : α) {m : Nat} (hm : m = l.length) (H : Sep w₀ S rs w) (hat : At rs (rowD e k enc (.slice A m c) l) put) (hi : i < l.length) (hv : (enc a').all Value.oneCell' = true)
    (h : ∀ w', Sep w₀ S (put (rowD e k enc (.slice A m c) (l.set i a'))) w' → FL P r n ops Q rest σ w') (hx : evF σ x = adr A (i * k) := by exact rfl) (hy : evF σ y = .agg (enc a').toArray := by exact rfl) :
    FL P r n ops Q ({ dst := none, op := .store T x y, type := ty, pos := pos, after := after, guard := none } :: rest) σ w := by
  obtain ⟨w', ha, hs⟩ := acts_storeDN (P := P) (ty := ty) (T := T) a' hm H hat hi hx hy hv
  exact FL_act ha rfl (h w' hs)
end
end Go.Mw
namespace Go.Proofs.YtmkaahkbhdlniaaGreatDoor
open Go Go.Mw Go.Lib Go.RowKit
set_option maxRecDepth 4000
section
variable {w w₀ : World} {S : Nat → Prop} {rs : List HP} {put : HP → List HP}
theorem rowIn_nil {α : Type} (w : World) (enc : α → List Value) (k : Nat) : RowIn w (.slice none 0 0) enc k [] := ⟨none, 0, rfl, ⟨Nat.le_refl _, by decide⟩, RowAt.nil _ _ _⟩
theorem rowIn_blkX {α : Type} {enc : α → List Value} {k b e m : Nat} [hk : EncK enc k] {l : List α} (H : Mw.Sep w₀ S rs w) (hat : At rs (blk b (l.flatMap enc) e) put) (hm : m = l.length) (hl : l.length ≤ 100000) : RowIn w (.slice (some ⟨b, 0, none⟩) m m) enc k l := by
 subst hm
 exact ⟨_, _, rfl, ⟨Nat.le_refl _, by omega⟩, Sep.blkRow H hat (flat_len hk.len l)⟩
end
/-! The words of the known expressions. -/
def endsL : List Int := [-9223372036854775808, -9223372036854775807, -4611686018427387904, -1, 0, 1, 2, 2147483648, 3037000500, 4611686018427387904, 9223372036854775807]
theorem ends_fits : ∀ x ∈ endsL, fits x := by unfold fits; decide
def leafTx : List (List UInt8) := [[116, 114, 117, 101], [102, 97, 108, 115, 101], [110, 117, 108, 108, 58, 98, 111, 111, 108], [110, 117, 108, 108, 58, 105, 110, 116, 54, 52], [110, 117, 108, 108, 58, 115, 116, 114, 105, 110, 103], [110, 117, 108, 108, 58, 98, 121, 116, 101, 115], [53], [34, 97, 34], [34, 34], [120], [120, 54, 49], [35, 49], [35, 54], [35, 55], [35, 56], [35, 57]]
def stepTx : List (List UInt8) := [[43], [45], [42], [110, 101, 103], [61], [60], [97, 110, 100], [111, 114], [110, 111, 116], [105, 115, 110, 117, 108, 108], [101, 108, 115, 101], [108, 101, 110], [35, 51]]
def goodF (w : List UInt8) : Bool := mayS (meantS w) && decide (wordF (meantS w) = w)
theorem goodF_eq (w : List UInt8) : goodF w = goodW (meantS w) w := by unfold goodF goodW; rw [wordF_eq (meant_fitsA w)]
theorem words_good : ∀ w ∈ leafTx ++ stepTx, goodW (meantS w) w = true ∧ (∀ c ∈ w, c ≠ 32) ∧ w.length ≤ 20 := by
 have key : ∀ w ∈ leafTx ++ stepTx, goodF w = true ∧ (∀ c ∈ w, c ≠ 32) ∧ w.length ≤ 20 := by decide +kernel
 intro w hw
 have := key w hw
 rw [goodF_eq] at this
 exact this
theorem parse_three {a b c : List UInt8} (ha : a ∈ leafTx) (hb : b ∈ leafTx) (hc : c ∈ stepTx) : parseS (a ++ [32] ++ b ++ [32] ++ c) = ([meantS a, meantS b, meantS c], 0) ∧ (a ++ [32] ++ b ++ [32] ++ c).length ≤ 100 := by
 obtain ⟨a1, a2, a3⟩ := words_good a (List.mem_append_left _ ha)
 obtain ⟨b1, b2, b3⟩ := words_good b (List.mem_append_left _ hb)
 obtain ⟨c1, c2, c3⟩ := words_good c (List.mem_append_right _ hc)
 have e : a ++ [32] ++ b ++ [32] ++ c = joinW 32 [a, b, c] := by
  show _ = a ++ 32 :: (b ++ 32 :: c)
  simp only [List.append_assoc, List.cons_append, List.nil_append]
 have hl : (a ++ [32] ++ b ++ [32] ++ c).length ≤ 100 := by
  simp only [List.length_append, List.length_cons, List.length_nil]; omega
 have hs : splitW 32 (joinW 32 [a, b, c]) = [a, b, c] := split_join (by simp) fun w hw => by
  simp only [List.mem_cons, List.not_mem_nil, or_false] at hw
  rcases hw with rfl | rfl | rfl
  ·exact a2
  ·exact b2
  exact c2
 refine ⟨?_, hl⟩
 have hcnt : (a ++ [32] ++ b ++ [32] ++ c).count 32 ≤ 2 := by
  have z : ∀ l : List UInt8, (∀ c ∈ l, c ≠ 32) → l.count 32 = 0 := fun l h => List.count_eq_zero.2 fun hm => h 32 hm rfl
  simp only [List.count_append, z a a2, z b b2, z c c2]
  decide
 unfold parseS
 rw [if_neg (by omega), if_neg (by intro h; have := congrArg List.length h; simp at this), e, hs]
 unfold readAll
 rw [if_pos a1]
 unfold readAll
 rw [if_pos b1]
 unfold readAll
 rw [if_pos c1]
 rfl
end Go.Proofs.YtmkaahkbhdlniaaGreatDoor
