/-
 A plan that the law makes by numbers, walked.
-/
import Derived.Test.YtolaedhdjcnijaaGreatDoorKu24
import Derived.Test.YtolaedhdjcnijaaGreatDoorKu23
import Derived.Test.YtolaedhdjcnijaaGreatDoorKu9
import Derived.Test.YtolaedhdjcnijaaGreatDoorKu6
import Derived.Test.YtolaedhdjcnijaaGreatDoorKu13
set_option linter.unusedVariables false
set_option linter.unusedSimpArgs false
namespace Go.Proofs.YtolaedhdjcnijaaGreatDoor
open Go Go.Mw Go.Lib
set_option maxRecDepth 4000
def ownH (x : Value × Value × List (List UInt8 × Value)) (p : PlanM) : HP := starL [seeH x.1 stepCells 3 p.wh, rowD 53 2 outCells x.2.1 x.2.2, rawsH x.2.2 p.cols]
theorem wrap_quo4 {g : Int} (h : fits g) : IntKind.wrap .i64 (g.tdiv 4) = g.tdiv 4 := wrap64 (by
 unfold fits at h
 by_cases h0 : 0 ≤ g
 ·rw [Int.tdiv_eq_ediv_of_nonneg h0]; omega
 have e : g.tdiv 4 = -((-g).tdiv 4) := by rw [Int.neg_tdiv, Int.neg_neg]
 rw [e, Int.tdiv_eq_ediv_of_nonneg (by omega)]; omega)
theorem abc_at : ∀ i : Fin 16, (([97, 98, 99, 100, 101, 102, 103, 104, 105, 106, 107, 108, 109, 110, 111, 112] : List UInt8).take (i.val + 1)).drop i.val = [UInt8.ofNat (97 + i.val)] := by decide
theorem nameP_len : ∀ y ∈ nameP, y.length ≤ 10 := by decide
section
variable {w : World}
theorem made_ok {l : List (Int × Int)} {vl : Value} {wh group : Int} (hl : RowIn w vl pairCells 2 l) (hg : fits group) (hT : TabsX w) : Rets Tryz.prog 19 [I wh, vl, I group] w fun v w' => ∃ x : Value × Value × List (List UInt8 × Value), v = agg [x.1, x.2.1, I (madeP wh l group).group] ∧ True ∧ Turn noB (ownH x (madeP wh l group)) w w' := by
 obtain ⟨A, m, rfl, ⟨hm, hm'⟩, hA⟩ := hl
 have H := Sep.start0 w
 obtain ⟨hp1, hp16⟩ := pairs_len l
 refine retsC3 Tryz.func19 rfl rfl rfl rfl ?_
 refine Sr (FL_alloc H (h := fun b6 w2 H2 k1 => ?_))
 refine Nx (Vv (Gives.build (out := [.slice none 0 0, .slice none 0 0, I (-1)]) (Fills.one rfl rfl rfl (by simp) rfl Fills.nil)) (FL_alloc H2 (h := fun b7 w5 H5 k4 => ?_)))
 refine FL_storeAll H5 (h := fun w7 H7 => ?_)
 refine Qn (FW_cut (fun z : Option Addr × Nat => [(1, .slice A l.length m), (2, I group), (6, selfP b6), (7, selfP b7)]) (fun z w' => Sep w noB [blk b7 [.slice z.1 (whereP wh).length z.2, .slice none 0 0, I (-1)] 25, seeH (.slice z.1 (whereP wh).length z.2) stepCells 3 (whereP wh), blk b6 [.slice none 0 0, .slice none 0 0, I 0] 25] w') ?_ ?_)
 ·refine Sr (Mv ?_)
  refine FL_callQ H7 (bring_ok (k := wh) (m := 4) (by decide) (by decide)) (h := fun w11 H11 k10 => ?_)
  obtain ⟨q, hq⟩ : ∃ q : Nat, wh % 4 = q := ⟨(wh % 4).toNat, by omega⟩
  have hq4 : q < 4 := by omega
  rw [hq]
  refine Am ?_
  refine Nx (Mv ?_)
  refine Vg ?_
  refine Qn (Cp rfl (fun hc15 => ?_) (fun hc15 => ?_))
  ·obtain ⟨y, hy⟩ := get_some (l := whereTx) (i := q) (show q < 4 by omega)
   have hpy := where_at hy
   have hyl := expr_tlen y (List.mem_append_right _ (List.mem_of_getElem? hy))
   have hwp : whereP wh = whereE.getD q [] := by unfold whereP; rw [hq]; rfl
   refine FW_region (FL_buildSlice H11 (xs := [_, _, _, _]) (out := whereTx.flatMap textCells) (Elems.one rfl rfl (Elems.one rfl rfl (Elems.one rfl rfl (Elems.one rfl rfl Elems.nil)))) rfl rfl rfl (fun bw w18 H18 k17 => ?_))
   refine Mv ?_
   refine Vv (Gives.idxR (l := whereTx) (enc := textCells) rfl rfl (show Rd _ (some ⟨bw, 0, none⟩) textCells 1 whereTx from Sep.blkRow H18 At0 rfl) hq4) (Vv (Gives.loadW (f := 0) rfl (show Rd _ (some ⟨bw, 0, none⟩) textCells 1 whereTx from Sep.blkRow H18 At0 rfl) hy rfl) ?_)
   refine FL_callN H18 (parseE_ok y (.inl (by omega)) (by omega) (hT.keep H18.kept)) (h := fun x w23 _ H23 k22 => ?_)
   rw [hpy, ← hwp] at H23 ⊢
   dsimp only at H23 ⊢
   obtain ⟨Aw, cw, rfl, _, _⟩ := Sep.formD H23 At0
   refine Mv ?_
   refine Vx ?_
   refine Vx ?_
   refine Vf ?_
   refine FL_store H23 (h := fun w29 H29 => ?_)
   refine FL_nil ?_
   exact Qcut_normal (Aw, cw) ⟨rfl, rfl, rfl, rfl, trivial⟩ (Sep_seeRow H29 At0).front1.drop0.front1
  have hwp : whereP wh = [] := by unfold whereP; rw [hq, show q = 0 by omega]; rfl
  refine FW_skip ?_
  exact Qcut_normal (none, 0) ⟨rfl, rfl, rfl, rfl, trivial⟩ (by
  dsimp only
  rw [hwp]
  exact (Sep.lookNew H11 (X := fun w => RowIn w (.slice none 0 0) stepCells 3 []) fun _ => rowIn_none).front1)
 rintro ⟨Aw, cw⟩ τ w34 H34
 dsimp only at H34
 simp only [upds, like, upd_ds, und_ds]
 refine FW_cut (fun z : Option Addr × Nat × HP => [(1, .slice z.1 (if l = [] then [(0, 0)] else l).length z.2.1), (2, I group), (6, selfP b6), (7, selfP b7)]) (fun z w' => ((if l = [] then [(0, 0)] else l).length ≤ z.2.1 ∧ ∀ rs w'', Sep w noB (z.2.2 :: rs) w'' → Rd w'' z.1 pairCells 2 (if l = [] then [(0, 0)] else l)) ∧ Sep w noB [z.2.2, blk b7 [.slice Aw (whereP wh).length cw, .slice none 0 0, I (-1)] 25, seeH (.slice Aw (whereP wh).length cw) stepCells 3 (whereP wh), blk b6 [.slice none 0 0, .slice none 0 0, I 0] 25] w') ?_ ?_
 ·refine Sr (Mv ?_)
  refine Vs ?_
  refine Ve ?_
  refine Qn (Cp rfl (fun hc39 => ?_) (fun hc39 => ?_))
  ·have he : l = [] := List.eq_nil_of_length_eq_zero (by omega)
   refine FW_region (Vv (Gives.buildArr (zs := [I 0, I 0]) (out := [I 0, I 0]) rfl (Fills.one rfl rfl rfl (by simp) rfl (Fills.one rfl rfl rfl (by simp) rfl Fills.nil))) (FL_buildSlice H34 (xs := [.tmp 28]) (out := [((0, 0) : Int × Int)].flatMap pairCells) (Elems.many rfl rfl Elems.nil) rfl rfl rfl (fun bz w43 H43 k42 => ?_)))
   refine Am ?_
   refine FL_nil ?_
   exact Qcut_normal (some ⟨bz, 0, none⟩, 1, _) ⟨by rw [if_pos he]; rfl, rfl, rfl, rfl, trivial⟩ ⟨⟨by rw [if_pos he]; exact Nat.le_refl _, fun rs w'' h => by rw [if_pos he]; exact Sep.blkRow h At0 rfl⟩, H43⟩
  have he : ¬ l = [] := fun e => hc39 (by rw [e]; rfl)
  refine FW_skip ?_
  exact Qcut_normal (A, m, pureH True) ⟨by rw [if_neg he]; rfl, rfl, rfl, rfl, trivial⟩ ⟨⟨by rw [if_neg he]; exact hm, fun rs w'' h => by rw [if_neg he]; exact hA.keep h.kept⟩, Sep.addPure trivial H34⟩
 rintro ⟨Ap, cp, hpp⟩ τ w49 ⟨⟨hle, hread⟩, H49⟩
 dsimp only at hle hread H49
 obtain ⟨L, hL⟩ : ∃ L, L = if l = [] then [(0, 0)] else l := ⟨_, rfl⟩
 rw [← hL] at hle hread ⊢
 have hps : pairsP l = L.take 16 := by rw [hL]; rfl
 obtain ⟨ps, hpse⟩ : ∃ ps, ps = pairsP l := ⟨_, rfl⟩
 rw [← hpse] at hp1 hp16 hps
 have hmin : Min.min ((L.length : Nat) : Int) 16 = ((ps.length : Nat) : Int) := by rw [hps, List.length_take]; omega
 have hpl : ps.length ≤ L.length := by rw [hps, List.length_take]; omega
 have hrd : ∀ {rs w''}, Sep w noB (hpp :: rs) w'' → Rd w'' Ap pairCells 2 ps := fun h => by rw [hps]; exact (hread _ _ h).cut 16
 simp only [upds, like, upd_ds]
 refine Sr (Mv ?_)
 refine Mv ?_
 refine Vs ?_
 refine Vv (Gives.minE rfl rfl hmin) (Vv (Gives.sliceTo (h := ps.length) rfl rfl (by omega)) ?_)
 refine Am ?_
 refine Qn (FW_cut (fun _ : Unit => [(1, .slice Ap ps.length cp), (6, selfP b6), (7, selfP b7)]) (fun _ w' => Sep w noB [hpp, blk b7 [.slice Aw (whereP wh).length cw, .slice none 0 0, I (groupP group ps.length)] 25, seeH (.slice Aw (whereP wh).length cw) stepCells 3 (whereP wh), blk b6 [.slice none 0 0, .slice none 0 0, I 0] 25] w') ?_ ?_)
 ·refine Sr (Mv ?_)
  refine FL_callQ H49 (bring_ok (k := group) (m := 4) (by decide) (by decide)) (h := fun w59 H59 k58 => ?_)
  obtain ⟨gq, hgq⟩ : ∃ gq : Nat, group % 4 = gq := ⟨(group % 4).toNat, by omega⟩
  rw [hgq]
  refine Vg ?_
  refine Qn (Cp rfl (fun hc61 => ?_) (fun hc61 => ?_))
  ·have hgp : groupP group ps.length = (group.tdiv 4) % ((ps.length + 1 : Nat) : Int) := by unfold groupP; rw [if_pos (by omega)]
   refine FW_region (Mv ?_)
   refine Vv (Gives.quo rfl rfl (by decide)) ?_
   rw [wrap_quo4 hg]
   refine Mv ?_
   refine Vs ?_
   refine Vv (Gives.addI (c := ((ps.length + 1 : Nat) : Int)) rfl rfl (by omega) (by omega)) (FL_callQ H59 (bring_ok (k := group.tdiv 4) (m := ((ps.length + 1 : Nat) : Int)) (by omega) (by omega)) (h := fun w69 H69 k68 => ?_))
   rw [← hgp]
   refine Vf ?_
   refine FL_store H69 (h := fun w72 H72 => ?_)
   refine FL_nil ?_
   exact Qcut_normal () ⟨rfl, rfl, rfl, trivial⟩ H72
  have hgp : groupP group ps.length = -1 := by unfold groupP; rw [if_neg (by omega)]
  refine FW_skip ?_
  exact Qcut_normal () ⟨rfl, rfl, rfl, trivial⟩ (by rw [hgp]; exact H59)
 intro _ τ w77 H77
 obtain ⟨g, hge⟩ : ∃ g, g = groupP group ps.length := ⟨_, rfl⟩
 rw [← hge] at H77
 simp only [upds, like, upd_ds]
 refine FW_seq (Sr (Am ?_))
 refine Qn (FW_block ?_)
 have H80 : Mw.Sep w noB [hpp, blk b7 [.slice Aw (whereP wh).length cw, .slice none 0 0, I g] 25, seeH (.slice Aw (whereP wh).length cw) stepCells 3 (whereP wh), rowD 53 2 outCells (.slice none 0 0) [], rawsH [] [], blk b6 [.slice none 0 0, .slice none 0 0, I 0] 25] w77 := by
  have h1 := Sep_rawNil (Sep.nilD H77 53 2 outCells)
  exact ((h1.front1).front4.front4).front4
 refine FW_loop' (fun x : Nat × (Option Addr × Nat) × List (List UInt8 × Value) => [(1, .slice Ap ps.length cp), (6, selfP b6), (7, selfP b7), (9, I x.1)]) (fun x w' => (x.1 ≤ ps.length ∧ x.2.2.length = x.1) ∧ Sep w noB [hpp, blk b7 [.slice Aw (whereP wh).length cw, .slice x.2.1.1 x.2.2.length x.2.1.2, I g] 25, seeH (.slice Aw (whereP wh).length cw) stepCells 3 (whereP wh), rowD 53 2 outCells (.slice x.2.1.1 x.2.2.length x.2.1.2) x.2.2, rawsH x.2.2 ((List.range x.1).map (colOf g ps)), blk b6 [.slice none 0 0, .slice none 0 0, I 0] 25] w') (fun x _ => ps.length - x.1) (0, (none, 0), []) ⟨rfl, rfl, rfl, rfl, trivial⟩ ⟨⟨Nat.zero_le _, rfl⟩, H80⟩ (fun x τ w80 hI => ?_)
 obtain ⟨i, ⟨Ac, cc⟩, r⟩ := x
 obtain ⟨⟨hi, hrl⟩, H80⟩ := hI
 dsimp only at hi hrl H80
 try simp only [upds, like, upd_ds]
 refine FW_seq (Sr (Mv ?_))
 refine Mv ?_
 refine Vs ?_
 refine Vl ?_
 refine Qn (Cp rfl (fun hc85 => ?_) (fun hc85 => ?_))
 ·have hlt : i < ps.length := by omega
  obtain ⟨y, hy⟩ := get_some hlt
  have hpd : ps.getD i (0, 0) = y := getD_of hy
  obtain ⟨q2, hq2⟩ : ∃ q : Nat, y.1 % 4 = q := ⟨(y.1 % 4).toNat, by omega⟩
  have hq24 : q2 < nameP.length := by show q2 < 4; omega
  obtain ⟨nm, hnm⟩ := get_some hq24
  have hnl := nameP_len nm (List.mem_of_getElem? hnm)
  have habc := abc_at ⟨i, by omega⟩
  dsimp only at habc
  have hcol : colOf g ps i = ⟨nm ++ [UInt8.ofNat (97 + i)], exprP y.2 (decide (0 ≤ g ∧ g ≤ i))⟩ := by
   unfold colOf
   rw [hpd, hq2, Int.toNat_natCast, getD_of hnm]
  refine Sk (FW_seq (FW_block (FW_seq (FW_drawS rfl H80 (h := fun hok87 w89 H89 => ?_)))))
  refine Gm hok87 1 ?_
  refine Gm hok87 2 ?_
  refine Gp hok87 3 rfl rfl (fun _ => (Gives.idxR (l := ps) (enc := pairCells) rfl rfl (by first | exact hrd H89 | exact hrd H89.front1) hlt)) ?_
  refine Gp hok87 4 rfl rfl (fun _ => (Gives.idxArrR (i := 0) rfl rfl (by first | exact hrd H89 | exact hrd H89.front1) (by omega) (by decide))) ?_
  refine Gl hok87 5 rfl rfl (Gives.loadW (i := i) (f := 0) (c := y) rfl (by first | exact hrd H89 | exact hrd H89.front1) hy rfl) ?_
  refine Gm hok87 9 ?_
  refine Gm hok87 10 ?_
  refine Gp hok87 11 rfl rfl (fun _ => (Gives.addI (c := ((i + 1 : Nat) : Int)) rfl rfl (by omega) (by omega))) (Gp hok87 12 rfl rfl (fun _ => (Gives.sliceBothT (l := [97, 98, 99, 100, 101, 102, 103, 104, 105, 106, 107, 108, 109, 110, 111, 112]) (i := i) (m := i + 1) rfl rfl rfl (by omega) (by show i + 1 ≤ 16; omega))) ?_)
  rw [habc]
  refine FG_two hok87 (e1 := 0) (e2 := 6) (by kernel_rfl) ?_ ?_
  ·refine step_buildSlice hok87 0 [(12, true), (11, true), (10, true), (9, true), (5, false), (4, true), (3, true), (2, true), (1, true)] H89 (xs := [_, _, _, _]) (out := nameP.flatMap textCells) (Elems.one rfl rfl (Elems.one rfl rfl (Elems.one rfl rfl (Elems.one rfl rfl Elems.nil)))) (h := fun bn w96 H96 => ⟨Stab_pure (Stab_pure (Stab_pure (Stab_pure ((Stab_cons rfl (by kernel_rfl) (Gives.loadW (i := i) (f := 0) (c := y) rfl (by first | exact hrd H96 | exact hrd H96.front1) hy rfl) rfl (Stab_pure (Stab_pure (Stab_pure (Stab_pure (Stab_nil)))))))))), ?_⟩)
   refine FGcallQ hok87 6 [(12, true), (11, true), (10, true), (9, true)] H96 (bring_ok (k := y.1) (m := 4) (by decide) (by decide)) (h := fun w98 H98 k97 => ?_)
   rw [hq2]
   refine ⟨Stab_pure (Stab_pure (Stab_pure (Stab_pure (Stab_nil)))), ?_⟩
   refine Gp hok87 7 rfl rfl (fun _ => (Gives.idxR (l := nameP) (enc := textCells) rfl rfl (show Rd _ (some ⟨bn, 0, none⟩) textCells 1 nameP from Sep.blkRow H98 At0 rfl) hq24)) (Gl hok87 8 rfl rfl (Gives.loadW (f := 0) rfl (show Rd _ (some ⟨bn, 0, none⟩) textCells 1 nameP from Sep.blkRow H98 At0 rfl) hnm rfl) ?_)
   refine Gp hok87 13 rfl rfl (fun _ => (Gives.catT rfl rfl (by first | omega | (simp; done) | (simp; omega)))) ?_
   refine Gp hok87 14 rfl rfl (fun _ => Gives.assign rfl) (FG_end hok87 (by kernel_rfl) ?_)
   refine Qseq_normal (FW_drawS rfl H98 (h := fun hok103 w105 H105 => ?_))
   refine Gp hok103 0 rfl rfl (fun _ => (Gives.field0 rfl)) (FGload hok103 1 H105 (h := ?_))
   refine Gm hok103 2 ?_
   refine Gm hok103 3 ?_
   refine Gm hok103 4 ?_
   refine Gp hok103 5 rfl rfl (fun _ => (Gives.idxR (l := ps) (enc := pairCells) rfl rfl (hrd H105.front1) hlt)) (Gp hok103 6 rfl rfl (fun _ => (Gives.idxArrR (i := 1) rfl rfl (hrd H105.front1) (by omega) (by decide))) ?_)
   refine Gl hok103 7 rfl rfl (Gives.loadW (i := i) (f := 1) (c := y) rfl (hrd H105.front1) hy rfl) (Gp hok103 8 rfl rfl (fun _ => (Gives.field0 rfl)) ?_)
   refine FGload hok103 9 H105 (h := ?_)
   refine Gp hok103 10 rfl rfl (fun _ => (Gives.geq rfl rfl)) (Gm hok103 11 ?_)
   refine FG_splitP (t := 76) rfl (fun hs114 => ?_) (fun hs114 => ?_)
   ·have hce : exprP y.2 (decide (g ≤ i)) = exprP y.2 (decide (0 ≤ g ∧ g ≤ i)) := by rw [show decide (g ≤ (i : Int)) = decide (0 ≤ g ∧ g ≤ i) from decide_eq_decide.2 ⟨fun h => ⟨by omega, h⟩, fun h => h.2⟩]
    refine Gm hok103 12 ?_
    refine Gp hok103 13 rfl rfl (fun _ => (Gives.field0 rfl)) (FGload hok103 14 H105 (h := ?_))
    refine Gp hok103 15 rfl rfl (fun _ => (Gives.geq rfl rfl)) (Gp hok103 16 rfl rfl (fun _ => Gives.pickT rfl rfl) ?_)
    refine FGcallN hok103 17 [(2, true), (1, false), (0, true)] H105 (expressionP_ok y.2 (decide (g ≤ i)) (hT.keep H105.kept)) (h := fun vx w121 _ H121 k120 => ?_)
    rw [hce] at H121
    obtain ⟨es, hes⟩ : ∃ es, es = exprP y.2 (decide (0 ≤ g ∧ g ≤ i)) := ⟨_, rfl⟩
    rw [← hes] at H121
    obtain ⟨Ax, cx, rfl, _, _⟩ := Sep.formD H121 At0
    refine ⟨Stab_pure (Stab_load H121 (h := Stab_pure (Stab_nil))), ?_⟩
    refine Gp hok103 18 rfl rfl (fun _ => (Gives.build (out := outCells (nm ++ [UInt8.ofNat (97 + i)], .slice Ax es.length cx)) (Fills.one rfl rfl rfl (by simp) rfl (Fills.one rfl rfl rfl (by simp) rfl Fills.nil)))) (FGbuildSlice hok103 19 [(1, false), (0, true)] H121 (xs := [.tmp 83]) (out := [(nm ++ [UInt8.ofNat (97 + i)], Value.slice Ax es.length cx)].flatMap outCells) (Elems.many rfl rfl Elems.nil) (h := fun bs w124 H124 => ⟨Stab_load H124 (h := Stab_pure (Stab_nil)), ?_⟩))
    refine FGappendD hok103 20 [] H124 (news := [(nm ++ [UInt8.ofNat (97 + i)], Value.slice Ax es.length cx)]) At5 (by unfold maxLen; simp; omega) (by simp; omega) (outs_one rfl) (h := fun v2 w126 H126 => ?_)
    obtain ⟨A2, c2, rfl, hc2, hA2⟩ := Sep.formD H126 At5
    refine ⟨Stab_nil, ?_⟩
    refine Gp hok103 21 rfl rfl (fun _ => (Gives.field0 rfl)) (FGstore hok103 22 [] H126 (h := fun w129 H129 => ⟨Stab_nil, ?_⟩))
    refine FG_end hok103 (by kernel_rfl) ?_
    refine Qblk_normal (Qseq_normal (FW_region (Mv ?_)))
    refine Vv (Gives.addI rfl rfl rfl (by omega)) (Am ?_)
    refine FL_nil ?_
    exact Qround_normal (i + 1, (A2, c2), r ++ [(nm ++ [UInt8.ofNat (97 + i)], Value.slice Ax es.length cx)]) ⟨rfl, rfl, rfl, rfl, trivial⟩ ⟨⟨by dsimp only; omega, by dsimp only; rw [List.length_append, List.length_singleton, hrl]⟩, by
    dsimp only
    rw [List.range_succ, List.map_append, List.map_cons, List.map_nil, hcol, ← hes]
    exact (((((Sep_rawPush (n := nm ++ [UInt8.ofNat (97 + i)]) (H129.front6.front1)).front1.drop0).front4).front4).front4).front4⟩ (by dsimp only; omega)
   have hce : exprP y.2 false = exprP y.2 (decide (0 ≤ g ∧ g ≤ i)) := by rw [decide_eq_false (show ¬ (0 ≤ g ∧ g ≤ i) by omega)]
   refine FGoff hok103 12 rfl rfl (by kernel_rfl) ?_
   refine FGoff hok103 13 rfl rfl (by kernel_rfl) ?_
   refine FGoff hok103 14 rfl rfl (by kernel_rfl) ?_
   refine FGoff hok103 15 rfl rfl (by kernel_rfl) ?_
   refine Gp hok103 16 rfl rfl (fun _ => Gives.pickF rfl rfl) (FGcallN hok103 17 [(2, true), (1, false), (0, true)] H105 (expressionP_ok y.2 false (hT.keep H105.kept)) (h := fun vx w137 _ H137 k136 => ?_))
   rw [hce] at H137
   obtain ⟨es, hes⟩ : ∃ es, es = exprP y.2 (decide (0 ≤ g ∧ g ≤ i)) := ⟨_, rfl⟩
   rw [← hes] at H137
   obtain ⟨Ax, cx, rfl, _, _⟩ := Sep.formD H137 At0
   refine ⟨Stab_pure (Stab_load H137 (h := Stab_pure (Stab_nil))), ?_⟩
   refine Gp hok103 18 rfl rfl (fun _ => (Gives.build (out := outCells (nm ++ [UInt8.ofNat (97 + i)], .slice Ax es.length cx)) (Fills.one rfl rfl rfl (by simp) rfl (Fills.one rfl rfl rfl (by simp) rfl Fills.nil)))) (FGbuildSlice hok103 19 [(1, false), (0, true)] H137 (xs := [.tmp 83]) (out := [(nm ++ [UInt8.ofNat (97 + i)], Value.slice Ax es.length cx)].flatMap outCells) (Elems.many rfl rfl Elems.nil) (h := fun bs w140 H140 => ⟨Stab_load H140 (h := Stab_pure (Stab_nil)), ?_⟩))
   refine FGappendD hok103 20 [] H140 (news := [(nm ++ [UInt8.ofNat (97 + i)], Value.slice Ax es.length cx)]) At5 (by unfold maxLen; simp; omega) (by simp; omega) (outs_one rfl) (h := fun v2 w142 H142 => ?_)
   obtain ⟨A2, c2, rfl, hc2, hA2⟩ := Sep.formD H142 At5
   refine ⟨Stab_nil, ?_⟩
   refine Gp hok103 21 rfl rfl (fun _ => (Gives.field0 rfl)) (FGstore hok103 22 [] H142 (h := fun w145 H145 => ⟨Stab_nil, ?_⟩))
   refine FG_end hok103 (by kernel_rfl) ?_
   refine Qblk_normal (Qseq_normal (FW_region (Mv ?_)))
   refine Vv (Gives.addI rfl rfl rfl (by omega)) (Am ?_)
   refine FL_nil ?_
   exact Qround_normal (i + 1, (A2, c2), r ++ [(nm ++ [UInt8.ofNat (97 + i)], Value.slice Ax es.length cx)]) ⟨rfl, rfl, rfl, rfl, trivial⟩ ⟨⟨by dsimp only; omega, by dsimp only; rw [List.length_append, List.length_singleton, hrl]⟩, by
   dsimp only
   rw [List.range_succ, List.map_append, List.map_cons, List.map_nil, hcol, ← hes]
   exact (((((Sep_rawPush (n := nm ++ [UInt8.ofNat (97 + i)]) (H145.front6.front1)).front1.drop0).front4).front4).front4).front4⟩ (by dsimp only; omega)
  refine step_callQ hok87 6 [(12, true), (11, true), (10, true), (9, true)] H89 (bring_ok (k := y.1) (m := 4) (by decide) (by decide)) (h := fun w151 H151 k150 => ?_)
  rw [hq2]
  refine ⟨Stab_pure (Stab_pure (Stab_pure (Stab_pure (Stab_nil)))), ?_⟩
  refine FGbuildSlice hok87 0 [(12, true), (11, true), (10, true), (9, true)] H151 (xs := [_, _, _, _]) (out := nameP.flatMap textCells) (Elems.one rfl rfl (Elems.one rfl rfl (Elems.one rfl rfl (Elems.one rfl rfl Elems.nil)))) (h := fun bn w153 H153 => ⟨Stab_pure (Stab_pure (Stab_pure (Stab_pure (Stab_nil)))), ?_⟩)
  refine Gp hok87 7 rfl rfl (fun _ => (Gives.idxR (l := nameP) (enc := textCells) rfl rfl (show Rd _ (some ⟨bn, 0, none⟩) textCells 1 nameP from Sep.blkRow H153 At0 rfl) hq24)) (Gl hok87 8 rfl rfl (Gives.loadW (f := 0) rfl (show Rd _ (some ⟨bn, 0, none⟩) textCells 1 nameP from Sep.blkRow H153 At0 rfl) hnm rfl) ?_)
  refine Gp hok87 13 rfl rfl (fun _ => (Gives.catT rfl rfl (by first | omega | (simp; done) | (simp; omega)))) ?_
  refine Gp hok87 14 rfl rfl (fun _ => Gives.assign rfl) (FG_end hok87 (by kernel_rfl) ?_)
  refine Qseq_normal (FW_drawS rfl H153 (h := fun hok158 w160 H160 => ?_))
  refine Gp hok158 0 rfl rfl (fun _ => (Gives.field0 rfl)) (FGload hok158 1 H160 (h := ?_))
  refine Gm hok158 2 ?_
  refine Gm hok158 3 ?_
  refine Gm hok158 4 ?_
  refine Gp hok158 5 rfl rfl (fun _ => (Gives.idxR (l := ps) (enc := pairCells) rfl rfl (hrd H160.front1) hlt)) (Gp hok158 6 rfl rfl (fun _ => (Gives.idxArrR (i := 1) rfl rfl (hrd H160.front1) (by omega) (by decide))) ?_)
  refine Gl hok158 7 rfl rfl (Gives.loadW (i := i) (f := 1) (c := y) rfl (hrd H160.front1) hy rfl) (Gp hok158 8 rfl rfl (fun _ => (Gives.field0 rfl)) ?_)
  refine FGload hok158 9 H160 (h := ?_)
  refine Gp hok158 10 rfl rfl (fun _ => (Gives.geq rfl rfl)) (Gm hok158 11 ?_)
  refine FG_splitP (t := 76) rfl (fun hs169 => ?_) (fun hs169 => ?_)
  ·have hce : exprP y.2 (decide (g ≤ i)) = exprP y.2 (decide (0 ≤ g ∧ g ≤ i)) := by rw [show decide (g ≤ (i : Int)) = decide (0 ≤ g ∧ g ≤ i) from decide_eq_decide.2 ⟨fun h => ⟨by omega, h⟩, fun h => h.2⟩]
   refine Gm hok158 12 ?_
   refine Gp hok158 13 rfl rfl (fun _ => (Gives.field0 rfl)) (FGload hok158 14 H160 (h := ?_))
   refine Gp hok158 15 rfl rfl (fun _ => (Gives.geq rfl rfl)) (Gp hok158 16 rfl rfl (fun _ => Gives.pickT rfl rfl) ?_)
   refine FGcallN hok158 17 [(2, true), (1, false), (0, true)] H160 (expressionP_ok y.2 (decide (g ≤ i)) (hT.keep H160.kept)) (h := fun vx w176 _ H176 k175 => ?_)
   rw [hce] at H176
   obtain ⟨es, hes⟩ : ∃ es, es = exprP y.2 (decide (0 ≤ g ∧ g ≤ i)) := ⟨_, rfl⟩
   rw [← hes] at H176
   obtain ⟨Ax, cx, rfl, _, _⟩ := Sep.formD H176 At0
   refine ⟨Stab_pure (Stab_load H176 (h := Stab_pure (Stab_nil))), ?_⟩
   refine Gp hok158 18 rfl rfl (fun _ => (Gives.build (out := outCells (nm ++ [UInt8.ofNat (97 + i)], .slice Ax es.length cx)) (Fills.one rfl rfl rfl (by simp) rfl (Fills.one rfl rfl rfl (by simp) rfl Fills.nil)))) (FGbuildSlice hok158 19 [(1, false), (0, true)] H176 (xs := [.tmp 83]) (out := [(nm ++ [UInt8.ofNat (97 + i)], Value.slice Ax es.length cx)].flatMap outCells) (Elems.many rfl rfl Elems.nil) (h := fun bs w179 H179 => ⟨Stab_load H179 (h := Stab_pure (Stab_nil)), ?_⟩))
   refine FGappendD hok158 20 [] H179 (news := [(nm ++ [UInt8.ofNat (97 + i)], Value.slice Ax es.length cx)]) At5 (by unfold maxLen; simp; omega) (by simp; omega) (outs_one rfl) (h := fun v2 w181 H181 => ?_)
   obtain ⟨A2, c2, rfl, hc2, hA2⟩ := Sep.formD H181 At5
   refine ⟨Stab_nil, ?_⟩
   refine Gp hok158 21 rfl rfl (fun _ => (Gives.field0 rfl)) (FGstore hok158 22 [] H181 (h := fun w184 H184 => ⟨Stab_nil, ?_⟩))
   refine FG_end hok158 (by kernel_rfl) ?_
   refine Qblk_normal (Qseq_normal (FW_region (Mv ?_)))
   refine Vv (Gives.addI rfl rfl rfl (by omega)) (Am ?_)
   refine FL_nil ?_
   exact Qround_normal (i + 1, (A2, c2), r ++ [(nm ++ [UInt8.ofNat (97 + i)], Value.slice Ax es.length cx)]) ⟨rfl, rfl, rfl, rfl, trivial⟩ ⟨⟨by dsimp only; omega, by dsimp only; rw [List.length_append, List.length_singleton, hrl]⟩, by
   dsimp only
   rw [List.range_succ, List.map_append, List.map_cons, List.map_nil, hcol, ← hes]
   exact (((((Sep_rawPush (n := nm ++ [UInt8.ofNat (97 + i)]) (H184.front6.front1)).front1.drop0).front4).front4).front4).front4⟩ (by dsimp only; omega)
  have hce : exprP y.2 false = exprP y.2 (decide (0 ≤ g ∧ g ≤ i)) := by rw [decide_eq_false (show ¬ (0 ≤ g ∧ g ≤ i) by omega)]
  refine FGoff hok158 12 rfl rfl (by kernel_rfl) ?_
  refine FGoff hok158 13 rfl rfl (by kernel_rfl) ?_
  refine FGoff hok158 14 rfl rfl (by kernel_rfl) ?_
  refine FGoff hok158 15 rfl rfl (by kernel_rfl) ?_
  refine Gp hok158 16 rfl rfl (fun _ => Gives.pickF rfl rfl) (FGcallN hok158 17 [(2, true), (1, false), (0, true)] H160 (expressionP_ok y.2 false (hT.keep H160.kept)) (h := fun vx w192 _ H192 k191 => ?_))
  rw [hce] at H192
  obtain ⟨es, hes⟩ : ∃ es, es = exprP y.2 (decide (0 ≤ g ∧ g ≤ i)) := ⟨_, rfl⟩
  rw [← hes] at H192
  obtain ⟨Ax, cx, rfl, _, _⟩ := Sep.formD H192 At0
  refine ⟨Stab_pure (Stab_load H192 (h := Stab_pure (Stab_nil))), ?_⟩
  refine Gp hok158 18 rfl rfl (fun _ => (Gives.build (out := outCells (nm ++ [UInt8.ofNat (97 + i)], .slice Ax es.length cx)) (Fills.one rfl rfl rfl (by simp) rfl (Fills.one rfl rfl rfl (by simp) rfl Fills.nil)))) (FGbuildSlice hok158 19 [(1, false), (0, true)] H192 (xs := [.tmp 83]) (out := [(nm ++ [UInt8.ofNat (97 + i)], Value.slice Ax es.length cx)].flatMap outCells) (Elems.many rfl rfl Elems.nil) (h := fun bs w195 H195 => ⟨Stab_load H195 (h := Stab_pure (Stab_nil)), ?_⟩))
  refine FGappendD hok158 20 [] H195 (news := [(nm ++ [UInt8.ofNat (97 + i)], Value.slice Ax es.length cx)]) At5 (by unfold maxLen; simp; omega) (by simp; omega) (outs_one rfl) (h := fun v2 w197 H197 => ?_)
  obtain ⟨A2, c2, rfl, hc2, hA2⟩ := Sep.formD H197 At5
  refine ⟨Stab_nil, ?_⟩
  refine Gp hok158 21 rfl rfl (fun _ => (Gives.field0 rfl)) (FGstore hok158 22 [] H197 (h := fun w200 H200 => ⟨Stab_nil, ?_⟩))
  refine FG_end hok158 (by kernel_rfl) ?_
  refine Qblk_normal (Qseq_normal (FW_region (Mv ?_)))
  refine Vv (Gives.addI rfl rfl rfl (by omega)) (Am ?_)
  refine FL_nil ?_
  exact Qround_normal (i + 1, (A2, c2), r ++ [(nm ++ [UInt8.ofNat (97 + i)], Value.slice Ax es.length cx)]) ⟨rfl, rfl, rfl, rfl, trivial⟩ ⟨⟨by dsimp only; omega, by dsimp only; rw [List.length_append, List.length_singleton, hrl]⟩, by
  dsimp only
  rw [List.range_succ, List.map_append, List.map_cons, List.map_nil, hcol, ← hes]
  exact (((((Sep_rawPush (n := nm ++ [UInt8.ofNat (97 + i)]) (H200.front6.front1)).front1.drop0).front4).front4).front4).front4⟩ (by dsimp only; omega)
 have hil : i = ps.length := by omega
 subst hil
 refine FW_exit (Qseq_exit (Qround_exit (Qblk_exit (Qseq_normal (Sr (FL_loadAll H80 (h := ?_)))))))
 refine FL_storeAll H80 (h := fun w208 H208 => ?_)
 refine Qn (FW_ret (QfnC_ret (h := ?_)))
 have hmade : madeP wh l group = ⟨whereP wh, (List.range ps.length).map (colOf g ps), g⟩ := by rw [hge, hpse]; rfl
 rw [hmade]
 exact ⟨_, resC1 H208, (_, _, r), rfl, trivial, (Sep.bundle (l := [_, _, _]) H208.drop0.drop0).first.turn⟩
end
theorem own_in {x : Value × Value × List (List UInt8 × Value)} {p : PlanM} {F : Nat → Prop} {w : World} (h : (ownH x p).ok F w) : PlanIn w (agg [x.1, x.2.1, I p.group]) p := by
 have H := Sep.parts (l := [seeH x.1 stepCells 3 p.wh, rowD 53 2 outCells x.2.1 x.2.2, rawsH x.2.2 p.cols]) (Sep.start1 h)
 exact ⟨x.1, x.2.1, rfl, Sep.sees H At0, x.2.2, Sep_in H At1, Sep.sees H At2⟩
section
variable {w : World}
theorem madePlan_ok {l : List (Int × Int)} {vl : Value} {wh group : Int} (hl : RowIn w vl pairCells 2 l) (hg : fits group) (hT : TabsX w) : Rets Tryz.prog 19 [I wh, vl, I group] w fun v w' => ∃ x, v = x ∧ True ∧ Turn noB (planH x (madeP wh l group)) w w' :=
 Calls.mono (made_ok hl hg hT) fun e w' he => by
  cases e with
  | returned v =>
   obtain ⟨x, rfl, _, hk, F', hq, hs⟩ := he
   exact ⟨_, rfl, trivial, hk, F', HP.look hq fun F w h => own_in h, hs⟩
  | _ => exact he.elim
end
end Go.Proofs.YtolaedhdjcnijaaGreatDoor
namespace Go.Proofs.YtolaedhdjcnijaaGreatDoor
open Go Go.Lib Go.Mw
set_option maxRecDepth 4000
end Go.Proofs.YtolaedhdjcnijaaGreatDoor
namespace Go.Mw
open Go.RowKit
section
variable {P : Program} {r : Option Nat} {n : Nat} {ops : Array Oper} {Q : Post} {rest : List Oper} {σ : St} {w w₀ : World} {S : Nat → Prop} {rs : List HP} {put : HP → List HP} {ty : TypeId} {pos : String} {after : Array Edge} {lv : List Bool} {pd : List (Nat × Bool)} {guard : Option (Nat × Bool)}
end
end Go.Mw
namespace Go.Proofs.YtolaedhdjcnijaaGreatDoor
open Go Go.Mw Go.Lib
set_option maxRecDepth 4000
section
variable {w : World}
end
theorem filter_next {α : Type} {f : α → Bool} {l : List α} {i : Nat} {c : α} (h : l[i]? = some c) : (l.take (i + 1)).filter f = if f c = true then (l.take i).filter f ++ [c] else (l.take i).filter f := by
 rw [List.take_add_one, h, Option.toList_some, List.filter_append]
 by_cases hf : f c = true
 ·rw [if_pos hf, List.filter_cons_of_pos hf, List.filter_nil]
 rw [if_neg hf, List.filter_cons_of_neg hf, List.filter_nil, List.append_nil]
theorem mem_next {α : Type} {l : List α} {k : Nat} {u x : α} (h : l[k]? = some u) : x ∈ l.take (k + 1) ↔ x ∈ l.take k ∨ u = x := by
 rw [List.take_add_one, h, Option.toList_some, List.mem_append, List.mem_singleton]
 exact or_congr_right eq_comm
theorem drop1_snoc {α : Type} {l : List α} {c : α} : (l ++ [c]).drop 1 = if 1 < (l ++ [c]).length then l.drop 1 ++ [c] else l.drop 1 := by
 cases l with
 | nil => rfl
 | cons a l => simp
theorem made_steps (wh : Int) (l : List (Int × Int)) (group : Int) : (madeP wh l group).wh.length ≤ 1000 ∧ ∀ o ∈ (madeP wh l group).cols, o.steps.length ≤ 1000 := by
 have hlen : ∀ e, e ∈ exprL ++ whereE → e.length ≤ 64 := fun e he => of_decide_eq_true (List.all_eq_true.1 expr_len e he)
 refine ⟨?_, fun o ho => ?_⟩
 ·show (whereP wh).length ≤ 1000
  have hl : (wh % 4).toNat < 4 := by omega
  have : (whereP wh).length ≤ 64 := by
   refine hlen _ (List.mem_append_right _ ?_)
   unfold whereP
   rw [List.getD_eq_getElem?_getD, List.getElem?_eq_getElem hl, Option.getD_some]
   exact List.getElem_mem _
  omega
 obtain ⟨j, hj⟩ := List.mem_iff_getElem?.1 ho
 obtain ⟨_, rfl⟩ := made_col hj
 have : (colOf (groupP group (pairsP l).length) (pairsP l) j).steps.length ≤ 64 := hlen _ (List.mem_append_left _ (exprP_in _ _).1)
 omega
section
variable {w : World}
theorem planUses_ok {l : List (Int × Int)} {vl : Value} {wh group : Int} (hl : RowIn w vl pairCells 2 l) (hg : fits group) (hT : TabsX w) : Rets Tryz.prog 9 [I wh, vl, I group] w fun v w' => v = .bool true ∧ Kept noB w w' := by
 have H := Sep.start0 w
 obtain ⟨p, hp⟩ : ∃ p, p = madeP wh l group := ⟨_, rfl⟩
 obtain ⟨cs, hcs⟩ : ∃ cs, cs = comesP (colsP false) p.group 0 p.cols := ⟨_, rfl⟩
 obtain ⟨us, hus⟩ : ∃ us, us = usesP p := ⟨_, rfl⟩
 have hc := made_comes wh l group
 have hpg : groupP group (pairsP l).length = (madeP wh l group).group := rfl
 have hlen := madeP_len wh l group
 have hfit := made_fit wh l group
 have hp16 := (pairs_len l).2
 have hst := made_steps wh l group
 have hfl := few_len wh l group
 have hb := made_few wh l group
 have hd := made_wider wh l group
 have hh : (checkP ((fewP (madeP wh l group)).drop 1) (madeP wh l group)).2 = if usesP (madeP wh l group) = [] then 0 else 220 := by
  cases hf : fewP (madeP wh l group) with
  | nil =>
   rw [hf] at hfl hb
   rw [if_pos (List.eq_nil_of_length_eq_zero hfl.symm), List.drop_nil, hb, hc]
  | cons a r =>
   rw [hf] at hfl
   rw [if_neg (fun e => by rw [e] at hfl; exact absurd hfl (by simp)), List.drop_one, List.tail_cons, made_less hf]
 rw [hpg] at hc
 rw [← hp] at hc hlen hfit hst hfl hb hd hh
 rw [← hcs] at hc
 rw [hc] at hb hd
 rw [← hus] at hfl hh
 have hfw : fewP p = (colsP false).filter fun c => decide (c.id ∈ us) := by rw [hus]; rfl
 rw [hfw] at hfl hb hh
 have hul : us.length ≤ 5 := by rw [← hfl]; exact List.length_filter_le _ _
 obtain ⟨cf, hcf⟩ : ∃ cf, cf = colsP false := ⟨_, rfl⟩
 have hcl : cf.length = 5 := by rw [hcf]; rfl
 have hcc := columnsP_ok (w := w) false
 rw [← hcf] at hc hfl hb hh
 refine rets3 Tryz.func9 rfl rfl rfl rfl ?_
 refine Sr (Am ?_)
 refine Nx (Mv ?_)
 refine Mv ?_
 refine Mv ?_
 refine FL_callN H (madePlan_ok (wh := wh) (hl.keep H.kept) hg (hT.keep H.kept)) (h := fun x wk _ Hk kk => ?_)
 rw [← hp] at Hk
 have hpin := Sep.sees Hk At0
 obtain ⟨A0, a0, B0, b0, rfl⟩ := plan_form hpin
 have hT0 := hT.keep kk
 clear hT hl
 refine FL_alloc (Sep.start0 wk) (h := fun b7 w7 H7 k6 => ?_)
 refine FL_storeAll H7 (h := fun w9 H9 => ?_)
 refine Nx (FL_loadAll H9 (h := ?_))
 refine FL_callN H9 (usesPE_ok (p := p) (hpin.keep H9.kept) (by omega) hst.1 hst.2) (h := fun vu w12 _ H12 k11 => ?_)
 rw [← hus] at H12
 obtain ⟨U, cu, rfl, hcu, _⟩ := Sep.formD H12 At0
 refine Am ?_
 refine Nx (Am ?_)
 refine Am ?_
 refine Nx (FL_callN H12 (columnsP_ok false) (h := fun vc w17 _ H17 k16 => ?_))
 rw [← hcf] at H17
 obtain ⟨C, cc, rfl, hcc1, _⟩ := Sep.formD H17 At0
 refine Am ?_
 refine Qn (FW_seq (Sr (Am ?_)))
 refine Qn (FW_block ?_)
 have H21 := Sep.nilD (Sep.nilD H17 49 7 colCells) 49 7 colCells
 refine FW_loop' (fun x : Nat × (Option Addr × Nat) × (Option Addr × Nat) => [(7, selfP b7), (8, .slice U us.length cu), (9, .slice x.2.1.1 ((cf.take x.1).filter fun c => decide (c.id ∈ us)).length x.2.1.2), (10, .slice x.2.2.1 (((cf.take x.1).filter fun c => decide (c.id ∈ us)).drop 1).length x.2.2.2), (11, .slice C cf.length cc), (12, I x.1)]) (fun x w' => x.1 ≤ cf.length ∧ Sep wk noB [rowD 49 7 colCells (.slice x.2.1.1 ((cf.take x.1).filter fun c => decide (c.id ∈ us)).length x.2.1.2) ((cf.take x.1).filter fun c => decide (c.id ∈ us)), rowD 49 7 colCells (.slice x.2.2.1 (((cf.take x.1).filter fun c => decide (c.id ∈ us)).drop 1).length x.2.2.2) (((cf.take x.1).filter fun c => decide (c.id ∈ us)).drop 1), rowD 49 7 colCells (.slice C cf.length cc) cf, rowD 3 1 intCells (.slice U us.length cu) us, blk b7 [.slice A0 p.wh.length a0, .slice B0 p.cols.length b0, I p.group] 25] w') (fun x _ => cf.length - x.1) (0, (none, 0), (none, 0)) ⟨rfl, rfl, rfl, rfl, rfl, rfl, trivial⟩ ⟨Nat.zero_le _, H21⟩ (fun x τ w21 hI => ?_)
 obtain ⟨i, ⟨F, cF⟩, ⟨L, cL⟩⟩ := x
 obtain ⟨hi, H21⟩ := hI
 dsimp only at hi H21
 obtain ⟨fl, hfle⟩ : ∃ fl, fl = (cf.take i).filter fun c => decide (c.id ∈ us) := ⟨_, rfl⟩
 rw [← hfle] at H21 ⊢
 have hfll : fl.length ≤ i := by rw [hfle]; exact Nat.le_trans (List.length_filter_le _ _) (by rw [List.length_take]; omega)
 try simp only [upds, like, upd_ds, und_ds]
 refine FW_seq (Sr (Mv ?_))
 refine Mv ?_
 refine Vs ?_
 refine Vl ?_
 refine Qn (Cp rfl (fun hc26 => ?_) (fun hc26 => ?_))
 ·have hlt : i < cf.length := by omega
  obtain ⟨c, hci⟩ := get_some hlt
  have hnx := filter_next (f := fun c => decide (c.id ∈ us)) hci
  rw [← hfle] at hnx
  refine Sk (FW_seq (FW_block (Sr (Am ?_))))
  refine Qn (FW_seq (Sr (Am ?_)))
  refine Qn (FW_block (FW_loop' (fun k : Nat => [(7, selfP b7), (8, .slice U us.length cu), (9, .slice F fl.length cF), (10, .slice L (fl.drop 1).length cL), (11, .slice C cf.length cc), (12, I i), (13, .bool (decide (c.id ∈ us.take k))), (14, I k)]) (fun k w' => k ≤ us.length ∧ Sep wk noB [rowD 49 7 colCells (.slice F fl.length cF) fl, rowD 49 7 colCells (.slice L (fl.drop 1).length cL) (fl.drop 1), rowD 49 7 colCells (.slice C cf.length cc) cf, rowD 3 1 intCells (.slice U us.length cu) us, blk b7 [.slice A0 p.wh.length a0, .slice B0 p.cols.length b0, I p.group] 25] w') (fun k _ => us.length - k) 0 ⟨rfl, rfl, rfl, rfl, rfl, rfl, by rw [List.take_zero]; rfl, rfl, trivial⟩ ⟨Nat.zero_le _, H21⟩ (fun k τ w31 hI => ?_)))
  obtain ⟨hk, H31⟩ := hI
  try simp only [upds, like, upd_ds]
  refine FW_seq (Sr (Mv ?_))
  refine Mv ?_
  refine Vs ?_
  refine Vl ?_
  refine Qn (Cp rfl (fun hc36 => ?_) (fun hc36 => ?_))
  ·have hkt : k < us.length := by omega
   obtain ⟨u, hu⟩ := get_some hkt
   have hmn := mem_next (x := c.id) hu
   refine Sk (FW_seq (FW_block (FW_drawS rfl H31 (h := fun hok38 w40 H40 => ?_))))
   refine Gm hok38 0 ?_
   refine Gm hok38 1 ?_
   refine FG_splitP (t := 44) rfl (fun hs41 => ?_) (fun hs41 => ?_)
   ·have hin : decide (c.id ∈ us.take (k + 1)) = true := decide_eq_true (hmn.2 (.inl hs41))
    refine FGoff hok38 2 rfl rfl (by kernel_rfl) ?_
    refine FGoff hok38 3 rfl rfl (by kernel_rfl) ?_
    refine FGoff hok38 4 rfl rfl (by kernel_rfl) ?_
    refine FGoff hok38 5 rfl rfl (by kernel_rfl) ?_
    refine FGoff hok38 6 rfl rfl (by kernel_rfl) ?_
    refine FGoff hok38 7 rfl rfl (by kernel_rfl) ?_
    refine FGoff hok38 8 rfl rfl (by kernel_rfl) ?_
    refine FGoff hok38 9 rfl rfl (by kernel_rfl) ?_
    refine FGoff hok38 10 rfl rfl (by kernel_rfl) ?_
    refine FGoff hok38 11 rfl rfl (by kernel_rfl) ?_
    refine Gp hok38 12 rfl rfl (fun _ => Gives.pickT rfl rfl) (FGset hok38 13 [] (h := ⟨Stab_nil, ?_⟩))
    refine FG_end hok38 (by kernel_rfl) ?_
    refine Qblk_normal (Qseq_normal (FW_region (Mv ?_)))
    refine Vv (Gives.addI rfl rfl rfl (by omega)) (Am ?_)
    refine FL_nil ?_
    exact Qround_normal (k + 1) ⟨rfl, rfl, rfl, rfl, rfl, rfl, by rw [hin]; rfl, rfl, trivial⟩ ⟨by omega, H40⟩ (by omega)
   have hin : decide (c.id ∈ us.take (k + 1)) = decide (u = c.id) := decide_eq_decide.2 (hmn.trans ⟨fun h => h.resolve_left hs41, .inr⟩)
   refine Gm hok38 2 ?_
   refine Gm hok38 3 ?_
   refine Gp hok38 4 rfl rfl (fun _ => (Gives.idxR (l := us) (enc := intCells) rfl rfl (Sep_rdD H40 At3) hkt)) (Gl hok38 5 rfl rfl (Gives.loadW (i := k) (f := 0) rfl (Sep_rdD H40 At3) hu rfl) ?_)
   refine Gm hok38 6 ?_
   refine Gm hok38 7 ?_
   refine Gp hok38 8 rfl rfl (fun _ => (Gives.idxR (l := cf) (enc := colCells) rfl rfl (Sep_rdD H40 At2) hlt)) (Gp hok38 9 rfl rfl (fun _ => (Gives.fieldR rfl (Sep_rdD H40 At2) (by omega))) ?_)
   refine Gl hok38 10 rfl rfl (Gives.loadW (i := i) (f := 0) rfl (Sep_rdD H40 At2) hci rfl) (Gp hok38 11 rfl rfl (fun _ => (Gives.eql rfl rfl)) ?_)
   refine Gp hok38 12 rfl rfl (fun _ => Gives.pickF rfl rfl) (FGset hok38 13 [] (h := ⟨Stab_nil, ?_⟩))
   refine FG_end hok38 (by kernel_rfl) ?_
   refine Qblk_normal (Qseq_normal (FW_region (Mv ?_)))
   refine Vv (Gives.addI rfl rfl rfl (by omega)) (Am ?_)
   refine FL_nil ?_
   exact Qround_normal (k + 1) ⟨rfl, rfl, rfl, rfl, rfl, rfl, by rw [hin]; rfl, rfl, trivial⟩ ⟨by omega, H40⟩ (by omega)
  have hke : k = us.length := by omega
  rw [hke, List.take_length]
  refine FW_exit (Qseq_exit (Qround_exit (Qblk_exit (Qseq_normal (FW_cut (fun z : (Option Addr × Nat) × List ColM => [(7, selfP b7), (8, .slice U us.length cu), (9, .slice z.1.1 z.2.length z.1.2), (10, .slice L (fl.drop 1).length cL), (11, .slice C cf.length cc), (12, I i), (13, .bool (decide (c.id ∈ us)))]) (fun z w' => z.2 = (cf.take (i + 1)).filter (fun c => decide (c.id ∈ us)) ∧ Sep wk noB [rowD 49 7 colCells (.slice z.1.1 z.2.length z.1.2) z.2, rowD 49 7 colCells (.slice L (fl.drop 1).length cL) (fl.drop 1), rowD 49 7 colCells (.slice C cf.length cc) cf, rowD 3 1 intCells (.slice U us.length cu) us, blk b7 [.slice A0 p.wh.length a0, .slice B0 p.cols.length b0, I p.group] 25] w') ?_ ?_)))))
  ·refine Sr (Mv ?_)
   refine Qn (Cp rfl (fun hc65 => ?_) (fun hc65 => ?_))
   ·rw [if_pos (decide_eq_true hc65)] at hnx
    refine FW_region (Mv ?_)
    refine Mv ?_
    refine Mv ?_
    refine Vv (Gives.idxR (l := cf) (enc := colCells) rfl rfl (Sep_rdD H31 At2) hlt) (Vv (Gives.loadW0 (i := i) rfl (Sep_rdD H31 At2) hci) ?_)
    refine FL_buildSlice H31 (xs := [.tmp 61]) (out := [c].flatMap colCells) (Elems.many rfl rfl Elems.nil) rfl rfl rfl (fun bs w73 H73 k72 => ?_)
    refine FL_appendD H73 (news := [c]) At0 (by unfold maxLen; simp; omega) (by simp; omega) (cells_one (fun _ => rfl) _) (h := ?_)
    intro v9 w75 H75
    obtain ⟨G2, cG2, rfl, _, _⟩ := Sep.formD H75 At0
    refine Am ?_
    refine FL_nil ?_
    exact Qcut_normal ((G2, cG2), fl ++ [c]) ⟨rfl, rfl, rfl, rfl, rfl, rfl, rfl, trivial⟩ ⟨hnx.symm, H75⟩
   rw [if_neg (by simpa using hc65)] at hnx
   refine FW_skip ?_
   exact Qcut_normal ((F, cF), fl) ⟨rfl, rfl, rfl, rfl, rfl, rfl, rfl, trivial⟩ ⟨hnx.symm, H31⟩
  rintro ⟨⟨G, cG⟩, gl⟩ τ w81 ⟨hgl, H81⟩
  dsimp only at hgl H81
  rw [← hgl] at hnx
  simp only [upds, like, upd_ds]
  refine Sr (Mv ?_)
  refine Mv ?_
  refine FL_splitP (t := 65) rfl (fun hs84 => ?_) (fun hs84 => ?_)
  ·rw [if_pos (decide_eq_true hs84)] at hnx
   have hd1 := drop1_snoc (l := fl) (c := c)
   rw [← hnx] at hd1
   have hgll : gl.length = fl.length + 1 := by rw [hnx]; simp
   refine On (Mv ?_)
   refine On (Vs ?_)
   refine On (Vg ?_)
   refine Pt ?_
   refine Qn (Cp rfl (fun hc90 => ?_) (fun hc90 => ?_))
   ·rw [if_pos (by omega)] at hd1
    refine FW_region (Mv ?_)
    refine Mv ?_
    refine Mv ?_
    refine Vv (Gives.idxR (l := cf) (enc := colCells) rfl rfl (Sep_rdD H81 At2) hlt) (Vv (Gives.loadW0 (i := i) rfl (Sep_rdD H81 At2) hci) ?_)
    refine FL_buildSlice H81 (xs := [.tmp 74]) (out := [c].flatMap colCells) (Elems.many rfl rfl Elems.nil) rfl rfl rfl (fun bs w98 H98 k97 => ?_)
    refine FL_appendD H98 (news := [c]) At1 (by unfold maxLen; simp; omega) (by simp; omega) (cells_one (fun _ => rfl) _) (h := ?_)
    intro v10 w100 H100
    rw [← hd1] at H100
    obtain ⟨L2, cL2, rfl, _, _⟩ := Sep.formD H100 At1
    refine Am ?_
    refine FL_nil (Qblk_normal (Qseq_normal (FW_region (Mv ?_))))
    refine Vv (Gives.addI rfl rfl rfl (by omega)) (Am ?_)
    refine FL_nil ?_
    exact Qround_normal (i + 1, (G, cG), (L2, cL2)) ⟨rfl, rfl, by rw [← hgl]; rfl, by rw [← hgl]; rfl, rfl, rfl, trivial⟩ ⟨by dsimp only; omega, by dsimp only; rw [← hgl]; exact H100⟩ (by dsimp only; omega)
   rw [if_neg (by omega)] at hd1
   refine FW_skip (Qblk_normal (Qseq_normal (FW_region (Mv ?_))))
   refine Vv (Gives.addI rfl rfl rfl (by omega)) (Am ?_)
   refine FL_nil ?_
   exact Qround_normal (i + 1, (G, cG), (L, cL)) ⟨rfl, rfl, by rw [← hgl]; rfl, by rw [← hgl, hd1]; rfl, rfl, rfl, trivial⟩ ⟨by dsimp only; omega, by dsimp only; rw [← hgl, hd1]; exact H81⟩ (by dsimp only; omega)
  rw [if_neg (by simpa using hs84)] at hnx
  refine Of (Of (Of (Pf ?_)))
  refine Qn (FW_cond_false rfl ?_)
  refine FW_skip (Qblk_normal (Qseq_normal (FW_region (Mv ?_))))
  refine Vv (Gives.addI rfl rfl rfl (by omega)) (Am ?_)
  refine FL_nil ?_
  exact Qround_normal (i + 1, (G, cG), (L, cL)) ⟨rfl, rfl, by rw [← hgl]; rfl, by rw [← hgl, hnx]; rfl, rfl, rfl, trivial⟩ ⟨by dsimp only; omega, by dsimp only; rw [← hgl, hnx]; rw [hnx] at H81; exact H81⟩ (by dsimp only; omega)
 have hil : i = cf.length := by omega
 rw [hil, List.take_length] at hfle
 rw [← hfle] at hfl hb hh
 refine FW_exit (Qseq_exit (Qround_exit (Qblk_exit (Qseq_normal (Sr (Mv ?_))))))
 refine FL_loadAll H21 (h := ?_)
 refine FL_callN H21 (checkE_ok (cols := cf) (p := p) (Sep_in H21 At2) (hpin.keep H21.kept) hfit.1 hfit.2 (by omega) (hT0.keep H21.kept)) (h := fun va w121 _ H121 k120 => ?_)
 rw [hc] at H121 ⊢
 dsimp only at H121 ⊢
 obtain ⟨Va, ca, rfl, _, _⟩ := Sep.formD H121 At0
 refine Mv ?_
 refine Vx ?_
 refine Vx ?_
 refine Am ?_
 refine Am ?_
 refine Nx (Mv ?_)
 refine FL_loadAll H121 (h := ?_)
 refine FL_callN H121 (checkE_ok (cols := fl) (p := p) (Sep_in H121 At1) (hpin.keep H121.kept) hfit.1 hfit.2 (by omega) (hT0.keep H121.kept)) (h := fun vb w130 _ H130 k129 => ?_)
 rw [hb] at H130 ⊢
 dsimp only at H130 ⊢
 obtain ⟨Vb, cb, rfl, _, _⟩ := Sep.formD H130 At0
 refine Mv ?_
 refine Vx ?_
 refine Vx ?_
 refine Am ?_
 refine Am ?_
 refine Qn (FW_seq (FW_drawS rfl H130 (h := fun hok136 w138 H138 => ?_)))
 refine FGloadAll hok136 1 H138 (h := ?_)
 refine FGcallN hok136 0 [(1, false)] H138 (columnsP_ok true) (h := fun vt w141 _ H141 k140 => ⟨(Stab_cons rfl (by kernel_rfl) (Gives.loadN rfl (H141.obj At7) (us := [.slice A0 p.wh.length a0, .slice B0 p.cols.length b0, I p.group]) rfl rfl) rfl (Stab_nil)), ?_⟩)
 refine FGcallN hok136 2 [] H141 (checkE_ok (cols := colsP true) (p := p) (Sep_in H141 At0) (hpin.keep H141.kept) hfit.1 hfit.2 (by omega) (hT0.keep H141.kept)) (h := fun vd w143 _ H143 k142 => ?_)
 rw [hd] at H143 ⊢
 dsimp only at H143 ⊢
 obtain ⟨Vd, cd, rfl, _, _⟩ := Sep.formD H143 At0
 refine ⟨Stab_nil, ?_⟩
 refine Gm hok136 3 ?_
 refine Gp hok136 4 rfl rfl (fun _ => (Gives.extract rfl rfl)) (Gp hok136 5 rfl rfl (fun _ => (Gives.extract rfl rfl)) ?_)
 refine Gp hok136 6 rfl rfl (fun _ => Gives.assign rfl) (Gp hok136 7 rfl rfl (fun _ => Gives.assign rfl) ?_)
 refine FG_end hok136 (by kernel_rfl) ?_
 refine Qseq_normal (Sr (Mv ?_))
 refine FL_loadAll H143 (h := ?_)
 refine FL_callN H143 (checkE_ok (cols := fl.drop 1) (p := p) (Sep_in H143 At5) (hpin.keep H143.kept) hfit.1 hfit.2 (by omega) (hT0.keep H143.kept)) (h := fun vh w151 _ H151 k150 => ?_)
 rw [hh]
 refine Mv ?_
 refine Vx ?_
 refine Vx ?_
 refine Am ?_
 refine Am ?_
 refine Nx (Mv ?_)
 refine Ve ?_
 refine Am ?_
 refine Qn (FW_cut (fun _ : Unit => [(8, .slice U us.length cu), (9, .slice F fl.length cF), (15, .slice Va cs.length ca), (16, I 0), (17, .slice Vb cs.length cb), (18, I 0), (19, .slice Vd cs.length cd), (20, I 0), (23, .bool true)]) (fun _ w' => Sep wk noB [rowD 49 7 colCells (.slice Vd cs.length cd) cs, rowD 49 7 colCells (.slice Vb cs.length cb) cs, rowD 49 7 colCells (.slice Va cs.length ca) cs] w') ?_ ?_)
 ·refine Sr (Mv ?_)
  refine Vs ?_
  refine Vg ?_
  refine Qn (Cp rfl (fun hc164 => ?_) (fun hc164 => ?_))
  ·rw [if_neg (fun e => by rw [e] at hc164; exact absurd hc164 (by decide))] at hh ⊢
   refine FW_region (Mv ?_)
   refine Ve ?_
   refine Am ?_
   refine FL_nil ?_
   exact Qcut_normal () ⟨rfl, rfl, rfl, rfl, rfl, rfl, rfl, rfl, rfl, trivial⟩ (Sep.firsts (l := [_, _, _]) H151.drop0.front1.drop0)
  rw [if_pos (List.eq_nil_of_length_eq_zero (by omega))] at hh ⊢
  refine FW_skip ?_
  exact Qcut_normal () ⟨rfl, rfl, rfl, rfl, rfl, rfl, rfl, rfl, rfl, trivial⟩ (Sep.firsts (l := [_, _, _]) H151.drop0.front1.drop0)
 intro _ τ w173 H173
 simp only [upds, like, upd_ds]
 refine Sr (Mv ?_)
 refine Ve ?_
 refine Mv ?_
 refine FL_splitP (t := 110) rfl (fun hs177 => ?_) (fun hs177 => ?_)
 ·refine On (Mv ?_)
  refine On (Ve ?_)
  refine Pt ?_
  refine Mv ?_
  refine FL_splitP (t := 114) rfl (fun hs182 => ?_) (fun hs182 => ?_)
  ·refine On (Mv ?_)
   refine On (Ve ?_)
   refine Pt ?_
   refine Mv ?_
   refine FL_splitP (t := 118) rfl (fun hs187 => ?_) (fun hs187 => ?_)
   ·refine On (Mv ?_)
    refine On (Mv ?_)
    refine On (FL_callQ H173 (colsEq_ok (a := cs) (b := cs) (Sep_in H173 At2) (Sep_in H173 At1)) (h := fun w191 H191 k190 => ?_))
    refine Pt ?_
    refine Mv ?_
    refine FL_splitP (t := 123) rfl (fun hs194 => ?_) (fun hs194 => ?_)
    ·refine On (Mv ?_)
     refine On (Mv ?_)
     refine On (FL_callQ H191 (colsEq_ok (a := cs) (b := cs) (Sep_in H191 At2) (Sep_in H191 At0)) (h := fun w198 H198 k197 => ?_))
     refine Pt ?_
     refine Mv ?_
     refine FL_splitP (t := 128) rfl (fun hs201 => ?_) (fun hs201 => ?_)
     ·refine On (Mv ?_)
      refine On (Vs ?_)
      refine On (Mv ?_)
      refine On (Vs ?_)
      refine On (Ve ?_)
      refine Pt ?_
      refine Mv ?_
      refine FL_splitP (t := 135) rfl (fun hs209 => ?_) (fun hs209 => ?_)
      ·refine On (Mv ?_)
       refine Pt ?_
       refine Mv ?_
       refine FL_split (t := 138) rfl (fun hs213 => ?_) (fun hs213 => ?_)
       ·refine On (FL_callQ H198 (worksP_ok (hT0.keep H198.kept)) (h := fun w215 H215 k214 => ?_))
        refine Pt ?_
        refine Am ?_
        refine Qn (FW_ret (Qfn_ret (hR := ?_)))
        exact ⟨rfl, kk.trans0 H215.kept⟩
       exact absurd hs213 (by decide)
      omega
     exact (hs201 trivial).elim
    exact (hs194 trivial).elim
   exact (hs187 trivial).elim
  exact (hs182 trivial).elim
 exact (hs177 trivial).elim
end
end Go.Proofs.YtolaedhdjcnijaaGreatDoor
