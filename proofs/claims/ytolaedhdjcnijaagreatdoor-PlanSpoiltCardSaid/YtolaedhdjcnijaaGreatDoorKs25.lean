/-
 A plan that the law makes by numbers, walked.
-/
import Derived.Test.YtolaedhdjcnijaaGreatDoorKs24
import Derived.Test.YtolaedhdjcnijaaGreatDoorKs23
import Derived.Test.YtolaedhdjcnijaaGreatDoorKs9
import Derived.Test.YtolaedhdjcnijaaGreatDoorKs6
import Derived.Test.YtolaedhdjcnijaaGreatDoorKs12
set_option linter.unusedVariables false
set_option linter.unusedSimpArgs false
namespace Go.Proofs.YtolaedhdjcnijaaGreatDoor
open Go Go.Mw Go.Lib
set_option maxRecDepth 4000
def ownH (x : Value × Value × List (List UInt8 × Value)) (p : PlanM) : HP := starL [seeH x.1 stepCells 3 p.wh, rowD 53 2 outCells x.2.1 x.2.2, rawsH x.2.2 p.cols]
theorem wrap_quo4 {g : Int} (h : fits g) : IntKind.wrap .i64 (g.tdiv 4) = g.tdiv 4 := wrap64 (by
 unfold fits at h
 by_cases h0 : 0 ≤ g
 ·rw [Int.tdiv_eq_ediv_of_nonneg h0]; omega
 have e : g.tdiv 4 = -((-g).tdiv 4) := by rw [Int.neg_tdiv, Int.neg_neg]
 rw [e, Int.tdiv_eq_ediv_of_nonneg (by omega)]; omega)
theorem abc_at : ∀ i : Fin 16, (([97, 98, 99, 100, 101, 102, 103, 104, 105, 106, 107, 108, 109, 110, 111, 112] : List UInt8).take (i.val + 1)).drop i.val = [UInt8.ofNat (97 + i.val)] := by decide
theorem nameP_len : ∀ y ∈ nameP, y.length ≤ 10 := by decide
section
variable {w : World}
theorem made_ok {l : List (Int × Int)} {vl : Value} {wh group : Int} (hl : RowIn w vl pairCells 2 l) (hg : fits group) (hT : TabsX w) : Rets Tryz.prog 19 [I wh, vl, I group] w fun v w' => ∃ x : Value × Value × List (List UInt8 × Value), v = agg [x.1, x.2.1, I (madeP wh l group).group] ∧ True ∧ Turn noB (ownH x (madeP wh l group)) w w' := by
 obtain ⟨A, m, rfl, ⟨hm, hm'⟩, hA⟩ := hl
 have H := Sep.start0 w
 obtain ⟨hp1, hp16⟩ := pairs_len l
 refine retsC3 Tryz.func19 rfl rfl rfl rfl ?_
 refine Sr (FL_alloc H (h := fun b6 w2 H2 k1 => ?_))
 refine Nx (Vv (Gives.build (out := [.slice none 0 0, .slice none 0 0, I (-1)]) (Fills.one rfl rfl rfl (by simp) rfl Fills.nil)) (FL_alloc H2 (h := fun b7 w5 H5 k4 => ?_)))
 refine FL_storeAll H5 (h := fun w7 H7 => ?_)
 refine Qn (FW_cut (fun z : Option Addr × Nat => [(1, .slice A l.length m), (2, I group), (6, selfP b6), (7, selfP b7)]) (fun z w' => Sep w noB [blk b7 [.slice z.1 (whereP wh).length z.2, .slice none 0 0, I (-1)] 25, seeH (.slice z.1 (whereP wh).length z.2) stepCells 3 (whereP wh), blk b6 [.slice none 0 0, .slice none 0 0, I 0] 25] w') ?_ ?_)
 ·refine Sr (Mv ?_)
  refine FL_callQ H7 (bring_ok (k := wh) (m := 4) (by decide) (by decide)) (h := fun w11 H11 k10 => ?_)
  obtain ⟨q, hq⟩ : ∃ q : Nat, wh % 4 = q := ⟨(wh % 4).toNat, by omega⟩
  have hq4 : q < 4 := by omega
  rw [hq]
  refine Am ?_
  refine Nx (Mv ?_)
  refine Vg ?_
  refine Qn (Cp rfl (fun hc15 => ?_) (fun hc15 => ?_))
  ·obtain ⟨y, hy⟩ := get_some (l := whereTx) (i := q) (show q < 4 by omega)
   have hpy := where_at hy
   have hyl := expr_tlen y (List.mem_append_right _ (List.mem_of_getElem? hy))
   have hwp : whereP wh = whereE.getD q [] := by unfold whereP; rw [hq]; rfl
   refine FW_region (FL_buildSlice H11 (xs := [_, _, _, _]) (out := whereTx.flatMap textCells) (Elems.one rfl rfl (Elems.one rfl rfl (Elems.one rfl rfl (Elems.one rfl rfl Elems.nil)))) rfl rfl rfl (fun bw w18 H18 k17 => ?_))
   refine Mv ?_
   refine Vv (Gives.idxR (l := whereTx) (enc := textCells) rfl rfl (show Rd _ (some ⟨bw, 0, none⟩) textCells 1 whereTx from Sep.blkRow H18 At0 rfl) hq4) (Vv (Gives.loadW (f := 0) rfl (show Rd _ (some ⟨bw, 0, none⟩) textCells 1 whereTx from Sep.blkRow H18 At0 rfl) hy rfl) ?_)
   refine FL_callN H18 (parseE_ok y (.inl (by omega)) (by omega) (hT.keep H18.kept)) (h := fun x w23 _ H23 k22 => ?_)
   rw [hpy, ← hwp] at H23 ⊢
   dsimp only at H23 ⊢
   obtain ⟨Aw, cw, rfl, _, _⟩ := Sep.formD H23 At0
   refine Mv ?_
   refine Vx ?_
   refine Vx ?_
   refine Vf ?_
   refine FL_store H23 (h := fun w29 H29 => ?_)
   refine FL_nil ?_
   exact Qcut_normal (Aw, cw) ⟨rfl, rfl, rfl, rfl, trivial⟩ (Sep_seeRow H29 At0).front1.drop0.front1
  have hwp : whereP wh = [] := by unfold whereP; rw [hq, show q = 0 by omega]; rfl
  refine FW_skip ?_
  exact Qcut_normal (none, 0) ⟨rfl, rfl, rfl, rfl, trivial⟩ (by
  dsimp only
  rw [hwp]
  exact (Sep.lookNew H11 (X := fun w => RowIn w (.slice none 0 0) stepCells 3 []) fun _ => rowIn_none).front1)
 rintro ⟨Aw, cw⟩ τ w34 H34
 dsimp only at H34
 simp only [upds, like, upd_ds, und_ds]
 refine FW_cut (fun z : Option Addr × Nat × HP => [(1, .slice z.1 (if l = [] then [(0, 0)] else l).length z.2.1), (2, I group), (6, selfP b6), (7, selfP b7)]) (fun z w' => ((if l = [] then [(0, 0)] else l).length ≤ z.2.1 ∧ ∀ rs w'', Sep w noB (z.2.2 :: rs) w'' → Rd w'' z.1 pairCells 2 (if l = [] then [(0, 0)] else l)) ∧ Sep w noB [z.2.2, blk b7 [.slice Aw (whereP wh).length cw, .slice none 0 0, I (-1)] 25, seeH (.slice Aw (whereP wh).length cw) stepCells 3 (whereP wh), blk b6 [.slice none 0 0, .slice none 0 0, I 0] 25] w') ?_ ?_
 ·refine Sr (Mv ?_)
  refine Vs ?_
  refine Ve ?_
  refine Qn (Cp rfl (fun hc39 => ?_) (fun hc39 => ?_))
  ·have he : l = [] := List.eq_nil_of_length_eq_zero (by omega)
   refine FW_region (Vv (Gives.buildArr (zs := [I 0, I 0]) (out := [I 0, I 0]) rfl (Fills.one rfl rfl rfl (by simp) rfl (Fills.one rfl rfl rfl (by simp) rfl Fills.nil))) (FL_buildSlice H34 (xs := [.tmp 28]) (out := [((0, 0) : Int × Int)].flatMap pairCells) (Elems.many rfl rfl Elems.nil) rfl rfl rfl (fun bz w43 H43 k42 => ?_)))
   refine Am ?_
   refine FL_nil ?_
   exact Qcut_normal (some ⟨bz, 0, none⟩, 1, _) ⟨by rw [if_pos he]; rfl, rfl, rfl, rfl, trivial⟩ ⟨⟨by rw [if_pos he]; exact Nat.le_refl _, fun rs w'' h => by rw [if_pos he]; exact Sep.blkRow h At0 rfl⟩, H43⟩
  have he : ¬ l = [] := fun e => hc39 (by rw [e]; rfl)
  refine FW_skip ?_
  exact Qcut_normal (A, m, pureH True) ⟨by rw [if_neg he]; rfl, rfl, rfl, rfl, trivial⟩ ⟨⟨by rw [if_neg he]; exact hm, fun rs w'' h => by rw [if_neg he]; exact hA.keep h.kept⟩, Sep.addPure trivial H34⟩
 rintro ⟨Ap, cp, hpp⟩ τ w49 ⟨⟨hle, hread⟩, H49⟩
 dsimp only at hle hread H49
 obtain ⟨L, hL⟩ : ∃ L, L = if l = [] then [(0, 0)] else l := ⟨_, rfl⟩
 rw [← hL] at hle hread ⊢
 have hps : pairsP l = L.take 16 := by rw [hL]; rfl
 obtain ⟨ps, hpse⟩ : ∃ ps, ps = pairsP l := ⟨_, rfl⟩
 rw [← hpse] at hp1 hp16 hps
 have hmin : Min.min ((L.length : Nat) : Int) 16 = ((ps.length : Nat) : Int) := by rw [hps, List.length_take]; omega
 have hpl : ps.length ≤ L.length := by rw [hps, List.length_take]; omega
 have hrd : ∀ {rs w''}, Sep w noB (hpp :: rs) w'' → Rd w'' Ap pairCells 2 ps := fun h => by rw [hps]; exact (hread _ _ h).cut 16
 simp only [upds, like, upd_ds]
 refine Sr (Mv ?_)
 refine Mv ?_
 refine Vs ?_
 refine Vv (Gives.minE rfl rfl hmin) (Vv (Gives.sliceTo (h := ps.length) rfl rfl (by omega)) ?_)
 refine Am ?_
 refine Qn (FW_cut (fun _ : Unit => [(1, .slice Ap ps.length cp), (6, selfP b6), (7, selfP b7)]) (fun _ w' => Sep w noB [hpp, blk b7 [.slice Aw (whereP wh).length cw, .slice none 0 0, I (groupP group ps.length)] 25, seeH (.slice Aw (whereP wh).length cw) stepCells 3 (whereP wh), blk b6 [.slice none 0 0, .slice none 0 0, I 0] 25] w') ?_ ?_)
 ·refine Sr (Mv ?_)
  refine FL_callQ H49 (bring_ok (k := group) (m := 4) (by decide) (by decide)) (h := fun w59 H59 k58 => ?_)
  obtain ⟨gq, hgq⟩ : ∃ gq : Nat, group % 4 = gq := ⟨(group % 4).toNat, by omega⟩
  rw [hgq]
  refine Vg ?_
  refine Qn (Cp rfl (fun hc61 => ?_) (fun hc61 => ?_))
  ·have hgp : groupP group ps.length = (group.tdiv 4) % ((ps.length + 1 : Nat) : Int) := by unfold groupP; rw [if_pos (by omega)]
   refine FW_region (Mv ?_)
   refine Vv (Gives.quo rfl rfl (by decide)) ?_
   rw [wrap_quo4 hg]
   refine Mv ?_
   refine Vs ?_
   refine Vv (Gives.addI (c := ((ps.length + 1 : Nat) : Int)) rfl rfl (by omega) (by omega)) (FL_callQ H59 (bring_ok (k := group.tdiv 4) (m := ((ps.length + 1 : Nat) : Int)) (by omega) (by omega)) (h := fun w69 H69 k68 => ?_))
   rw [← hgp]
   refine Vf ?_
   refine FL_store H69 (h := fun w72 H72 => ?_)
   refine FL_nil ?_
   exact Qcut_normal () ⟨rfl, rfl, rfl, trivial⟩ H72
  have hgp : groupP group ps.length = -1 := by unfold groupP; rw [if_neg (by omega)]
  refine FW_skip ?_
  exact Qcut_normal () ⟨rfl, rfl, rfl, trivial⟩ (by rw [hgp]; exact H59)
 intro _ τ w77 H77
 obtain ⟨g, hge⟩ : ∃ g, g = groupP group ps.length := ⟨_, rfl⟩
 rw [← hge] at H77
 simp only [upds, like, upd_ds]
 refine FW_seq (Sr (Am ?_))
 refine Qn (FW_block ?_)
 have H80 : Mw.Sep w noB [hpp, blk b7 [.slice Aw (whereP wh).length cw, .slice none 0 0, I g] 25, seeH (.slice Aw (whereP wh).length cw) stepCells 3 (whereP wh), rowD 53 2 outCells (.slice none 0 0) [], rawsH [] [], blk b6 [.slice none 0 0, .slice none 0 0, I 0] 25] w77 := by
  have h1 := Sep_rawNil (Sep.nilD H77 53 2 outCells)
  exact ((h1.front1).front4.front4).front4
 refine FW_loop' (fun x : Nat × (Option Addr × Nat) × List (List UInt8 × Value) => [(1, .slice Ap ps.length cp), (6, selfP b6), (7, selfP b7), (9, I x.1)]) (fun x w' => (x.1 ≤ ps.length ∧ x.2.2.length = x.1) ∧ Sep w noB [hpp, blk b7 [.slice Aw (whereP wh).length cw, .slice x.2.1.1 x.2.2.length x.2.1.2, I g] 25, seeH (.slice Aw (whereP wh).length cw) stepCells 3 (whereP wh), rowD 53 2 outCells (.slice x.2.1.1 x.2.2.length x.2.1.2) x.2.2, rawsH x.2.2 ((List.range x.1).map (colOf g ps)), blk b6 [.slice none 0 0, .slice none 0 0, I 0] 25] w') (fun x _ => ps.length - x.1) (0, (none, 0), []) ⟨rfl, rfl, rfl, rfl, trivial⟩ ⟨⟨Nat.zero_le _, rfl⟩, H80⟩ (fun x τ w80 hI => ?_)
 obtain ⟨i, ⟨Ac, cc⟩, r⟩ := x
 obtain ⟨⟨hi, hrl⟩, H80⟩ := hI
 dsimp only at hi hrl H80
 try simp only [upds, like, upd_ds]
 refine FW_seq (Sr (Mv ?_))
 refine Mv ?_
 refine Vs ?_
 refine Vl ?_
 refine Qn (Cp rfl (fun hc85 => ?_) (fun hc85 => ?_))
 ·have hlt : i < ps.length := by omega
  obtain ⟨y, hy⟩ := get_some hlt
  have hpd : ps.getD i (0, 0) = y := getD_of hy
  obtain ⟨q2, hq2⟩ : ∃ q : Nat, y.1 % 4 = q := ⟨(y.1 % 4).toNat, by omega⟩
  have hq24 : q2 < nameP.length := by show q2 < 4; omega
  obtain ⟨nm, hnm⟩ := get_some hq24
  have hnl := nameP_len nm (List.mem_of_getElem? hnm)
  have habc := abc_at ⟨i, by omega⟩
  dsimp only at habc
  have hcol : colOf g ps i = ⟨nm ++ [UInt8.ofNat (97 + i)], exprP y.2 (decide (0 ≤ g ∧ g ≤ i))⟩ := by
   unfold colOf
   rw [hpd, hq2, Int.toNat_natCast, getD_of hnm]
  refine Sk (FW_seq (FW_block (FW_seq (FW_drawS rfl H80 (h := fun hok87 w89 H89 => ?_)))))
  refine Gm hok87 1 ?_
  refine Gm hok87 2 ?_
  refine Gp hok87 3 rfl rfl (fun _ => (Gives.idxR (l := ps) (enc := pairCells) rfl rfl (by first | exact hrd H89 | exact hrd H89.front1) hlt)) ?_
  refine Gp hok87 4 rfl rfl (fun _ => (Gives.idxArrR (i := 0) rfl rfl (by first | exact hrd H89 | exact hrd H89.front1) (by omega) (by decide))) ?_
  refine Gl hok87 5 rfl rfl (Gives.loadW (i := i) (f := 0) (c := y) rfl (by first | exact hrd H89 | exact hrd H89.front1) hy rfl) ?_
  refine Gm hok87 9 ?_
  refine Gm hok87 10 ?_
  refine Gp hok87 11 rfl rfl (fun _ => (Gives.addI (c := ((i + 1 : Nat) : Int)) rfl rfl (by omega) (by omega))) (Gp hok87 12 rfl rfl (fun _ => (Gives.sliceBothT (l := [97, 98, 99, 100, 101, 102, 103, 104, 105, 106, 107, 108, 109, 110, 111, 112]) (i := i) (m := i + 1) rfl rfl rfl (by omega) (by show i + 1 ≤ 16; omega))) ?_)
  rw [habc]
  refine FG_two hok87 (e1 := 0) (e2 := 6) (by kernel_rfl) ?_ ?_
  ·refine step_buildSlice hok87 0 [(12, true), (11, true), (10, true), (9, true), (5, false), (4, true), (3, true), (2, true), (1, true)] H89 (xs := [_, _, _, _]) (out := nameP.flatMap textCells) (Elems.one rfl rfl (Elems.one rfl rfl (Elems.one rfl rfl (Elems.one rfl rfl Elems.nil)))) (h := fun bn w96 H96 => ⟨Stab_pure (Stab_pure (Stab_pure (Stab_pure ((Stab_cons rfl (by kernel_rfl) (Gives.loadW (i := i) (f := 0) (c := y) rfl (by first | exact hrd H96 | exact hrd H96.front1) hy rfl) rfl (Stab_pure (Stab_pure (Stab_pure (Stab_pure (Stab_nil)))))))))), ?_⟩)
   refine FGcallQ hok87 6 [(12, true), (11, true), (10, true), (9, true)] H96 (bring_ok (k := y.1) (m := 4) (by decide) (by decide)) (h := fun w98 H98 k97 => ?_)
   rw [hq2]
   refine ⟨Stab_pure (Stab_pure (Stab_pure (Stab_pure (Stab_nil)))), ?_⟩
   refine Gp hok87 7 rfl rfl (fun _ => (Gives.idxR (l := nameP) (enc := textCells) rfl rfl (show Rd _ (some ⟨bn, 0, none⟩) textCells 1 nameP from Sep.blkRow H98 At0 rfl) hq24)) (Gl hok87 8 rfl rfl (Gives.loadW (f := 0) rfl (show Rd _ (some ⟨bn, 0, none⟩) textCells 1 nameP from Sep.blkRow H98 At0 rfl) hnm rfl) ?_)
   refine Gp hok87 13 rfl rfl (fun _ => (Gives.catT rfl rfl (by first | omega | (simp; done) | (simp; omega)))) ?_
   refine Gp hok87 14 rfl rfl (fun _ => Gives.assign rfl) (FG_end hok87 (by kernel_rfl) ?_)
   refine Qseq_normal (FW_drawS rfl H98 (h := fun hok103 w105 H105 => ?_))
   refine Gp hok103 0 rfl rfl (fun _ => (Gives.field0 rfl)) (FGload hok103 1 H105 (h := ?_))
   refine Gm hok103 2 ?_
   refine Gm hok103 3 ?_
   refine Gm hok103 4 ?_
   refine Gp hok103 5 rfl rfl (fun _ => (Gives.idxR (l := ps) (enc := pairCells) rfl rfl (hrd H105.front1) hlt)) (Gp hok103 6 rfl rfl (fun _ => (Gives.idxArrR (i := 1) rfl rfl (hrd H105.front1) (by omega) (by decide))) ?_)
   refine Gl hok103 7 rfl rfl (Gives.loadW (i := i) (f := 1) (c := y) rfl (hrd H105.front1) hy rfl) (Gp hok103 8 rfl rfl (fun _ => (Gives.field0 rfl)) ?_)
   refine FGload hok103 9 H105 (h := ?_)
   refine Gp hok103 10 rfl rfl (fun _ => (Gives.geq rfl rfl)) (Gm hok103 11 ?_)
   refine FG_splitP (t := 76) rfl (fun hs114 => ?_) (fun hs114 => ?_)
   ·have hce : exprP y.2 (decide (g ≤ i)) = exprP y.2 (decide (0 ≤ g ∧ g ≤ i)) := by rw [show decide (g ≤ (i : Int)) = decide (0 ≤ g ∧ g ≤ i) from decide_eq_decide.2 ⟨fun h => ⟨by omega, h⟩, fun h => h.2⟩]
    refine Gm hok103 12 ?_
    refine Gp hok103 13 rfl rfl (fun _ => (Gives.field0 rfl)) (FGload hok103 14 H105 (h := ?_))
    refine Gp hok103 15 rfl rfl (fun _ => (Gives.geq rfl rfl)) (Gp hok103 16 rfl rfl (fun _ => Gives.pickT rfl rfl) ?_)
    refine FGcallN hok103 17 [(2, true), (1, false), (0, true)] H105 (expressionP_ok y.2 (decide (g ≤ i)) (hT.keep H105.kept)) (h := fun vx w121 _ H121 k120 => ?_)
    rw [hce] at H121
    obtain ⟨es, hes⟩ : ∃ es, es = exprP y.2 (decide (0 ≤ g ∧ g ≤ i)) := ⟨_, rfl⟩
    rw [← hes] at H121
    obtain ⟨Ax, cx, rfl, _, _⟩ := Sep.formD H121 At0
    refine ⟨Stab_pure (Stab_load H121 (h := Stab_pure (Stab_nil))), ?_⟩
    refine Gp hok103 18 rfl rfl (fun _ => (Gives.build (out := outCells (nm ++ [UInt8.ofNat (97 + i)], .slice Ax es.length cx)) (Fills.one rfl rfl rfl (by simp) rfl (Fills.one rfl rfl rfl (by simp) rfl Fills.nil)))) (FGbuildSlice hok103 19 [(1, false), (0, true)] H121 (xs := [.tmp 83]) (out := [(nm ++ [UInt8.ofNat (97 + i)], Value.slice Ax es.length cx)].flatMap outCells) (Elems.many rfl rfl Elems.nil) (h := fun bs w124 H124 => ⟨Stab_load H124 (h := Stab_pure (Stab_nil)), ?_⟩))
    refine FGappendD hok103 20 [] H124 (news := [(nm ++ [UInt8.ofNat (97 + i)], Value.slice Ax es.length cx)]) At5 (by unfold maxLen; simp; omega) (by simp; omega) (outs_one rfl) (h := fun v2 w126 H126 => ?_)
    obtain ⟨A2, c2, rfl, hc2, hA2⟩ := Sep.formD H126 At5
    refine ⟨Stab_nil, ?_⟩
    refine Gp hok103 21 rfl rfl (fun _ => (Gives.field0 rfl)) (FGstore hok103 22 [] H126 (h := fun w129 H129 => ⟨Stab_nil, ?_⟩))
    refine FG_end hok103 (by kernel_rfl) ?_
    refine Qblk_normal (Qseq_normal (FW_region (Mv ?_)))
    refine Vv (Gives.addI rfl rfl rfl (by omega)) (Am ?_)
    refine FL_nil ?_
    exact Qround_normal (i + 1, (A2, c2), r ++ [(nm ++ [UInt8.ofNat (97 + i)], Value.slice Ax es.length cx)]) ⟨rfl, rfl, rfl, rfl, trivial⟩ ⟨⟨by dsimp only; omega, by dsimp only; rw [List.length_append, List.length_singleton, hrl]⟩, by
    dsimp only
    rw [List.range_succ, List.map_append, List.map_cons, List.map_nil, hcol, ← hes]
    exact (((((Sep_rawPush (n := nm ++ [UInt8.ofNat (97 + i)]) (H129.front6.front1)).front1.drop0).front4).front4).front4).front4⟩ (by dsimp only; omega)
   have hce : exprP y.2 false = exprP y.2 (decide (0 ≤ g ∧ g ≤ i)) := by rw [decide_eq_false (show ¬ (0 ≤ g ∧ g ≤ i) by omega)]
   refine FGoff hok103 12 rfl rfl (by kernel_rfl) ?_
   refine FGoff hok103 13 rfl rfl (by kernel_rfl) ?_
   refine FGoff hok103 14 rfl rfl (by kernel_rfl) ?_
   refine FGoff hok103 15 rfl rfl (by kernel_rfl) ?_
   refine Gp hok103 16 rfl rfl (fun _ => Gives.pickF rfl rfl) (FGcallN hok103 17 [(2, true), (1, false), (0, true)] H105 (expressionP_ok y.2 false (hT.keep H105.kept)) (h := fun vx w137 _ H137 k136 => ?_))
   rw [hce] at H137
   obtain ⟨es, hes⟩ : ∃ es, es = exprP y.2 (decide (0 ≤ g ∧ g ≤ i)) := ⟨_, rfl⟩
   rw [← hes] at H137
   obtain ⟨Ax, cx, rfl, _, _⟩ := Sep.formD H137 At0
   refine ⟨Stab_pure (Stab_load H137 (h := Stab_pure (Stab_nil))), ?_⟩
   refine Gp hok103 18 rfl rfl (fun _ => (Gives.build (out := outCells (nm ++ [UInt8.ofNat (97 + i)], .slice Ax es.length cx)) (Fills.one rfl rfl rfl (by simp) rfl (Fills.one rfl rfl rfl (by simp) rfl Fills.nil)))) (FGbuildSlice hok103 19 [(1, false), (0, true)] H137 (xs := [.tmp 83]) (out := [(nm ++ [UInt8.ofNat (97 + i)], Value.slice Ax es.length cx)].flatMap outCells) (Elems.many rfl rfl Elems.nil) (h := fun bs w140 H140 => ⟨Stab_load H140 (h := Stab_pure (Stab_nil)), ?_⟩))
   refine FGappendD hok103 20 [] H140 (news := [(nm ++ [UInt8.ofNat (97 + i)], Value.slice Ax es.length cx)]) At5 (by unfold maxLen; simp; omega) (by simp; omega) (outs_one rfl) (h := fun v2 w142 H142 => ?_)
   obtain ⟨A2, c2, rfl, hc2, hA2⟩ := Sep.formD H142 At5
   refine ⟨Stab_nil, ?_⟩
   refine Gp hok103 21 rfl rfl (fun _ => (Gives.field0 rfl)) (FGstore hok103 22 [] H142 (h := fun w145 H145 => ⟨Stab_nil, ?_⟩))
   refine FG_end hok103 (by kernel_rfl) ?_
   refine Qblk_normal (Qseq_normal (FW_region (Mv ?_)))
   refine Vv (Gives.addI rfl rfl rfl (by omega)) (Am ?_)
   refine FL_nil ?_
   exact Qround_normal (i + 1, (A2, c2), r ++ [(nm ++ [UInt8.ofNat (97 + i)], Value.slice Ax es.length cx)]) ⟨rfl, rfl, rfl, rfl, trivial⟩ ⟨⟨by dsimp only; omega, by dsimp only; rw [List.length_append, List.length_singleton, hrl]⟩, by
   dsimp only
   rw [List.range_succ, List.map_append, List.map_cons, List.map_nil, hcol, ← hes]
   exact (((((Sep_rawPush (n := nm ++ [UInt8.ofNat (97 + i)]) (H145.front6.front1)).front1.drop0).front4).front4).front4).front4⟩ (by dsimp only; omega)
  refine step_callQ hok87 6 [(12, true), (11, true), (10, true), (9, true)] H89 (bring_ok (k := y.1) (m := 4) (by decide) (by decide)) (h := fun w151 H151 k150 => ?_)
  rw [hq2]
  refine ⟨Stab_pure (Stab_pure (Stab_pure (Stab_pure (Stab_nil)))), ?_⟩
  refine FGbuildSlice hok87 0 [(12, true), (11, true), (10, true), (9, true)] H151 (xs := [_, _, _, _]) (out := nameP.flatMap textCells) (Elems.one rfl rfl (Elems.one rfl rfl (Elems.one rfl rfl (Elems.one rfl rfl Elems.nil)))) (h := fun bn w153 H153 => ⟨Stab_pure (Stab_pure (Stab_pure (Stab_pure (Stab_nil)))), ?_⟩)
  refine Gp hok87 7 rfl rfl (fun _ => (Gives.idxR (l := nameP) (enc := textCells) rfl rfl (show Rd _ (some ⟨bn, 0, none⟩) textCells 1 nameP from Sep.blkRow H153 At0 rfl) hq24)) (Gl hok87 8 rfl rfl (Gives.loadW (f := 0) rfl (show Rd _ (some ⟨bn, 0, none⟩) textCells 1 nameP from Sep.blkRow H153 At0 rfl) hnm rfl) ?_)
  refine Gp hok87 13 rfl rfl (fun _ => (Gives.catT rfl rfl (by first | omega | (simp; done) | (simp; omega)))) ?_
  refine Gp hok87 14 rfl rfl (fun _ => Gives.assign rfl) (FG_end hok87 (by kernel_rfl) ?_)
  refine Qseq_normal (FW_drawS rfl H153 (h := fun hok158 w160 H160 => ?_))
  refine Gp hok158 0 rfl rfl (fun _ => (Gives.field0 rfl)) (FGload hok158 1 H160 (h := ?_))
  refine Gm hok158 2 ?_
  refine Gm hok158 3 ?_
  refine Gm hok158 4 ?_
  refine Gp hok158 5 rfl rfl (fun _ => (Gives.idxR (l := ps) (enc := pairCells) rfl rfl (hrd H160.front1) hlt)) (Gp hok158 6 rfl rfl (fun _ => (Gives.idxArrR (i := 1) rfl rfl (hrd H160.front1) (by omega) (by decide))) ?_)
  refine Gl hok158 7 rfl rfl (Gives.loadW (i := i) (f := 1) (c := y) rfl (hrd H160.front1) hy rfl) (Gp hok158 8 rfl rfl (fun _ => (Gives.field0 rfl)) ?_)
  refine FGload hok158 9 H160 (h := ?_)
  refine Gp hok158 10 rfl rfl (fun _ => (Gives.geq rfl rfl)) (Gm hok158 11 ?_)
  refine FG_splitP (t := 76) rfl (fun hs169 => ?_) (fun hs169 => ?_)
  ·have hce : exprP y.2 (decide (g ≤ i)) = exprP y.2 (decide (0 ≤ g ∧ g ≤ i)) := by rw [show decide (g ≤ (i : Int)) = decide (0 ≤ g ∧ g ≤ i) from decide_eq_decide.2 ⟨fun h => ⟨by omega, h⟩, fun h => h.2⟩]
   refine Gm hok158 12 ?_
   refine Gp hok158 13 rfl rfl (fun _ => (Gives.field0 rfl)) (FGload hok158 14 H160 (h := ?_))
   refine Gp hok158 15 rfl rfl (fun _ => (Gives.geq rfl rfl)) (Gp hok158 16 rfl rfl (fun _ => Gives.pickT rfl rfl) ?_)
   refine FGcallN hok158 17 [(2, true), (1, false), (0, true)] H160 (expressionP_ok y.2 (decide (g ≤ i)) (hT.keep H160.kept)) (h := fun vx w176 _ H176 k175 => ?_)
   rw [hce] at H176
   obtain ⟨es, hes⟩ : ∃ es, es = exprP y.2 (decide (0 ≤ g ∧ g ≤ i)) := ⟨_, rfl⟩
   rw [← hes] at H176
   obtain ⟨Ax, cx, rfl, _, _⟩ := Sep.formD H176 At0
   refine ⟨Stab_pure (Stab_load H176 (h := Stab_pure (Stab_nil))), ?_⟩
   refine Gp hok158 18 rfl rfl (fun _ => (Gives.build (out := outCells (nm ++ [UInt8.ofNat (97 + i)], .slice Ax es.length cx)) (Fills.one rfl rfl rfl (by simp) rfl (Fills.one rfl rfl rfl (by simp) rfl Fills.nil)))) (FGbuildSlice hok158 19 [(1, false), (0, true)] H176 (xs := [.tmp 83]) (out := [(nm ++ [UInt8.ofNat (97 + i)], Value.slice Ax es.length cx)].flatMap outCells) (Elems.many rfl rfl Elems.nil) (h := fun bs w179 H179 => ⟨Stab_load H179 (h := Stab_pure (Stab_nil)), ?_⟩))
   refine FGappendD hok158 20 [] H179 (news := [(nm ++ [UInt8.ofNat (97 + i)], Value.slice Ax es.length cx)]) At5 (by unfold maxLen; simp; omega) (by simp; omega) (outs_one rfl) (h := fun v2 w181 H181 => ?_)
   obtain ⟨A2, c2, rfl, hc2, hA2⟩ := Sep.formD H181 At5
   refine ⟨Stab_nil, ?_⟩
   refine Gp hok158 21 rfl rfl (fun _ => (Gives.field0 rfl)) (FGstore hok158 22 [] H181 (h := fun w184 H184 => ⟨Stab_nil, ?_⟩))
   refine FG_end hok158 (by kernel_rfl) ?_
   refine Qblk_normal (Qseq_normal (FW_region (Mv ?_)))
   refine Vv (Gives.addI rfl rfl rfl (by omega)) (Am ?_)
   refine FL_nil ?_
   exact Qround_normal (i + 1, (A2, c2), r ++ [(nm ++ [UInt8.ofNat (97 + i)], Value.slice Ax es.length cx)]) ⟨rfl, rfl, rfl, rfl, trivial⟩ ⟨⟨by dsimp only; omega, by dsimp only; rw [List.length_append, List.length_singleton, hrl]⟩, by
   dsimp only
   rw [List.range_succ, List.map_append, List.map_cons, List.map_nil, hcol, ← hes]
   exact (((((Sep_rawPush (n := nm ++ [UInt8.ofNat (97 + i)]) (H184.front6.front1)).front1.drop0).front4).front4).front4).front4⟩ (by dsimp only; omega)
  have hce : exprP y.2 false = exprP y.2 (decide (0 ≤ g ∧ g ≤ i)) := by rw [decide_eq_false (show ¬ (0 ≤ g ∧ g ≤ i) by omega)]
  refine FGoff hok158 12 rfl rfl (by kernel_rfl) ?_
  refine FGoff hok158 13 rfl rfl (by kernel_rfl) ?_
  refine FGoff hok158 14 rfl rfl (by kernel_rfl) ?_
  refine FGoff hok158 15 rfl rfl (by kernel_rfl) ?_
  refine Gp hok158 16 rfl rfl (fun _ => Gives.pickF rfl rfl) (FGcallN hok158 17 [(2, true), (1, false), (0, true)] H160 (expressionP_ok y.2 false (hT.keep H160.kept)) (h := fun vx w192 _ H192 k191 => ?_))
  rw [hce] at H192
  obtain ⟨es, hes⟩ : ∃ es, es = exprP y.2 (decide (0 ≤ g ∧ g ≤ i)) := ⟨_, rfl⟩
  rw [← hes] at H192
  obtain ⟨Ax, cx, rfl, _, _⟩ := Sep.formD H192 At0
  refine ⟨Stab_pure (Stab_load H192 (h := Stab_pure (Stab_nil))), ?_⟩
  refine Gp hok158 18 rfl rfl (fun _ => (Gives.build (out := outCells (nm ++ [UInt8.ofNat (97 + i)], .slice Ax es.length cx)) (Fills.one rfl rfl rfl (by simp) rfl (Fills.one rfl rfl rfl (by simp) rfl Fills.nil)))) (FGbuildSlice hok158 19 [(1, false), (0, true)] H192 (xs := [.tmp 83]) (out := [(nm ++ [UInt8.ofNat (97 + i)], Value.slice Ax es.length cx)].flatMap outCells) (Elems.many rfl rfl Elems.nil) (h := fun bs w195 H195 => ⟨Stab_load H195 (h := Stab_pure (Stab_nil)), ?_⟩))
  refine FGappendD hok158 20 [] H195 (news := [(nm ++ [UInt8.ofNat (97 + i)], Value.slice Ax es.length cx)]) At5 (by unfold maxLen; simp; omega) (by simp; omega) (outs_one rfl) (h := fun v2 w197 H197 => ?_)
  obtain ⟨A2, c2, rfl, hc2, hA2⟩ := Sep.formD H197 At5
  refine ⟨Stab_nil, ?_⟩
  refine Gp hok158 21 rfl rfl (fun _ => (Gives.field0 rfl)) (FGstore hok158 22 [] H197 (h := fun w200 H200 => ⟨Stab_nil, ?_⟩))
  refine FG_end hok158 (by kernel_rfl) ?_
  refine Qblk_normal (Qseq_normal (FW_region (Mv ?_)))
  refine Vv (Gives.addI rfl rfl rfl (by omega)) (Am ?_)
  refine FL_nil ?_
  exact Qround_normal (i + 1, (A2, c2), r ++ [(nm ++ [UInt8.ofNat (97 + i)], Value.slice Ax es.length cx)]) ⟨rfl, rfl, rfl, rfl, trivial⟩ ⟨⟨by dsimp only; omega, by dsimp only; rw [List.length_append, List.length_singleton, hrl]⟩, by
  dsimp only
  rw [List.range_succ, List.map_append, List.map_cons, List.map_nil, hcol, ← hes]
  exact (((((Sep_rawPush (n := nm ++ [UInt8.ofNat (97 + i)]) (H200.front6.front1)).front1.drop0).front4).front4).front4).front4⟩ (by dsimp only; omega)
 have hil : i = ps.length := by omega
 subst hil
 refine FW_exit (Qseq_exit (Qround_exit (Qblk_exit (Qseq_normal (Sr (FL_loadAll H80 (h := ?_)))))))
 refine FL_storeAll H80 (h := fun w208 H208 => ?_)
 refine Qn (FW_ret (QfnC_ret (h := ?_)))
 have hmade : madeP wh l group = ⟨whereP wh, (List.range ps.length).map (colOf g ps), g⟩ := by rw [hge, hpse]; rfl
 rw [hmade]
 exact ⟨_, resC1 H208, (_, _, r), rfl, trivial, (Sep.bundle (l := [_, _, _]) H208.drop0.drop0).first.turn⟩
end
section
variable {w : World}
end
end Go.Proofs.YtolaedhdjcnijaaGreatDoor
namespace Go.Proofs.YtolaedhdjcnijaaGreatDoor
open Go Go.Lib Go.Mw
set_option maxRecDepth 4000
end Go.Proofs.YtolaedhdjcnijaaGreatDoor
namespace Go.Mw
open Go.RowKit
section
variable {P : Program} {r : Option Nat} {n : Nat} {ops : Array Oper} {Q : Post} {rest : List Oper} {σ : St} {w w₀ : World} {S : Nat → Prop} {rs : List HP} {put : HP → List HP} {ty : TypeId} {pos : String} {after : Array Edge} {lv : List Bool} {pd : List (Nat × Bool)} {guard : Option (Nat × Bool)}
end
end Go.Mw
namespace Go.Proofs.YtolaedhdjcnijaaGreatDoor
open Go Go.Mw Go.Lib
set_option maxRecDepth 4000
section
variable {w : World}
end
section
variable {w : World}
end
end Go.Proofs.YtolaedhdjcnijaaGreatDoor
namespace Go.Mw
open Go.RowKit
section
variable {P : Program} {r : Option Nat} {n : Nat} {ops : Array Oper} {Q : Post} {rest : List Oper} {σ : St} {w w₀ : World} {S : Nat → Prop} {rs : List HP} {put : HP → List HP} {ty : TypeId} {pos : String} {after : Array Edge} {lv : List Bool} {pd : List (Nat × Bool)} {guard : Option (Nat × Bool)}
variable {α : Type} {enc : α → List Value} {k e c : Nat} {l : List α} {A : Option Addr}
end
end Go.Mw
namespace Go.Proofs.YtolaedhdjcnijaaGreatDoor
open Go Go.Mw Go.Lib
set_option maxRecDepth 4000
theorem RowTo.set {m i : Nat} {r : List CellM} {c : CellM} (h : RowTo m r) (hc : fits c.n ∧ ∀ b, okC (colAt b i).type c) : RowTo m (r.set i c) := by
 refine ⟨by rw [List.length_set]; exact h.len, fun y hy => ?_, fun b j d hd => ?_⟩
 ·rcases List.mem_or_eq_of_mem_set hy with h1 | h1
  ·exact h.fit y h1
  rw [h1]; exact hc.1
 by_cases hj : i = j
 ·subst hj
  rw [List.getElem?_set_self' ] at hd
  cases hg : r[i]? with
  | none => rw [hg] at hd; cases hd
  | some z => rw [hg] at hd; simp at hd; rw [← hd]; exact hc.2 b
 rw [List.getElem?_set_ne hj] at hd; exact h.ok b j d hd
section
variable {w : World}
end
end Go.Proofs.YtolaedhdjcnijaaGreatDoor
