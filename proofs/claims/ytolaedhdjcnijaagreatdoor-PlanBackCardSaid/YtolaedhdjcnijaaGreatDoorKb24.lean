/-
 A plan that the law makes by numbers, walked.
-/
import Derived.Test.YtolaedhdjcnijaaGreatDoorKb23
import Derived.Test.YtolaedhdjcnijaaGreatDoorKb6
import Derived.ProofKit
import Derived.Carry
import Derived.ChangeSame
import Derived.Deep.Slices
import Derived.Deep.Fields
import Derived.Test.YtolaedhdjcnijaaGreatDoorKb14
import Derived.Test.YtolaedhdjcnijaaGreatDoorRows
import Derived.PinnedBridge
import Derived.Lib.LaidU8
import Derived.Stop.LaidErr
import Derived.Deep.DeepHandedRow
import Derived.Lay
import Derived.MakeChecks
import Derived.Test.YtolaedhdjcnijaaGreatDoorKb12
import Derived.ChangeMaps5
import Derived.Test.YtolaedhdjcnijaaGreatDoorKb20
import Derived.OpenShut
import Derived.JoinedOf
set_option linter.unusedVariables false
set_option linter.unusedSimpArgs false
namespace Go.Proofs.YtolaedhdjcnijaaGreatDoor
open Go Go.Mw Go.Lib
set_option maxRecDepth 4000
def ownH (x : Value × Value × List (List UInt8 × Value)) (p : PlanM) : HP := starL [seeH x.1 stepCells 3 p.wh, rowD 53 2 outCells x.2.1 x.2.2, rawsH x.2.2 p.cols]
theorem wrap_quo4 {g : Int} (h : fits g) : IntKind.wrap .i64 (g.tdiv 4) = g.tdiv 4 := wrap64 (by
 unfold fits at h
 by_cases h0 : 0 ≤ g
 ·rw [Int.tdiv_eq_ediv_of_nonneg h0]; omega
 have e : g.tdiv 4 = -((-g).tdiv 4) := by rw [Int.neg_tdiv, Int.neg_neg]
 rw [e, Int.tdiv_eq_ediv_of_nonneg (by omega)]; omega)
theorem abc_at : ∀ i : Fin 16, (([97, 98, 99, 100, 101, 102, 103, 104, 105, 106, 107, 108, 109, 110, 111, 112] : List UInt8).take (i.val + 1)).drop i.val = [UInt8.ofNat (97 + i.val)] := by decide
theorem nameP_len : ∀ y ∈ nameP, y.length ≤ 10 := by decide
section
variable {w : World}
theorem made_ok {l : List (Int × Int)} {vl : Value} {wh group : Int} (hl : RowIn w vl pairCells 2 l) (hg : fits group) (hT : TabsX w) : Rets Tryz.prog 19 [I wh, vl, I group] w fun v w' => ∃ x : Value × Value × List (List UInt8 × Value), v = agg [x.1, x.2.1, I (madeP wh l group).group] ∧ True ∧ Turn noB (ownH x (madeP wh l group)) w w' := by
 obtain ⟨A, m, rfl, ⟨hm, hm'⟩, hA⟩ := hl
 have H := Sep.start0 w
 obtain ⟨hp1, hp16⟩ := pairs_len l
 refine retsC3 Tryz.func19 rfl rfl rfl rfl ?_
 refine Sr (FL_alloc H (h := fun b6 w2 H2 k1 => ?_))
 refine Nx (Vv (Gives.build (out := [.slice none 0 0, .slice none 0 0, I (-1)]) (Fills.one rfl rfl rfl (by simp) rfl Fills.nil)) (FL_alloc H2 (h := fun b7 w5 H5 k4 => ?_)))
 refine FL_storeAll H5 (h := fun w7 H7 => ?_)
 refine Qn (FW_cut (fun z : Option Addr × Nat => [(1, .slice A l.length m), (2, I group), (6, selfP b6), (7, selfP b7)]) (fun z w' => Sep w noB [blk b7 [.slice z.1 (whereP wh).length z.2, .slice none 0 0, I (-1)] 25, seeH (.slice z.1 (whereP wh).length z.2) stepCells 3 (whereP wh), blk b6 [.slice none 0 0, .slice none 0 0, I 0] 25] w') ?_ ?_)
 ·refine Sr (Mv ?_)
  refine FL_callQ H7 (bring_ok (k := wh) (m := 4) (by decide) (by decide)) (h := fun w11 H11 k10 => ?_)
  obtain ⟨q, hq⟩ : ∃ q : Nat, wh % 4 = q := ⟨(wh % 4).toNat, by omega⟩
  have hq4 : q < 4 := by omega
  rw [hq]
  refine Am ?_
  refine Nx (Mv ?_)
  refine Vg ?_
  refine Qn (Cp rfl (fun hc15 => ?_) (fun hc15 => ?_))
  ·obtain ⟨y, hy⟩ := get_some (l := whereTx) (i := q) (show q < 4 by omega)
   have hpy := where_at hy
   have hyl := expr_tlen y (List.mem_append_right _ (List.mem_of_getElem? hy))
   have hwp : whereP wh = whereE.getD q [] := by unfold whereP; rw [hq]; rfl
   refine FW_region (FL_buildSlice H11 (xs := [_, _, _, _]) (out := whereTx.flatMap textCells) (Elems.one rfl rfl (Elems.one rfl rfl (Elems.one rfl rfl (Elems.one rfl rfl Elems.nil)))) rfl rfl rfl (fun bw w18 H18 k17 => ?_))
   refine Mv ?_
   refine Vv (Gives.idxR (l := whereTx) (enc := textCells) rfl rfl (show Rd _ (some ⟨bw, 0, none⟩) textCells 1 whereTx from Sep.blkRow H18 At0 rfl) hq4) (Vv (Gives.loadW (f := 0) rfl (show Rd _ (some ⟨bw, 0, none⟩) textCells 1 whereTx from Sep.blkRow H18 At0 rfl) hy rfl) ?_)
   refine FL_callN H18 (parseE_ok y (.inl (by omega)) (by omega) (hT.keep H18.kept)) (h := fun x w23 _ H23 k22 => ?_)
   rw [hpy, ← hwp] at H23 ⊢
   dsimp only at H23 ⊢
   obtain ⟨Aw, cw, rfl, _, _⟩ := Sep.formD H23 At0
   refine Mv ?_
   refine Vx ?_
   refine Vx ?_
   refine Vf ?_
   refine FL_store H23 (h := fun w29 H29 => ?_)
   refine FL_nil ?_
   exact Qcut_normal (Aw, cw) ⟨rfl, rfl, rfl, rfl, trivial⟩ (Sep_seeRow H29 At0).front1.drop0.front1
  have hwp : whereP wh = [] := by unfold whereP; rw [hq, show q = 0 by omega]; rfl
  refine FW_skip ?_
  exact Qcut_normal (none, 0) ⟨rfl, rfl, rfl, rfl, trivial⟩ (by
  dsimp only
  rw [hwp]
  exact (Sep.lookNew H11 (X := fun w => RowIn w (.slice none 0 0) stepCells 3 []) fun _ => rowIn_none).front1)
 rintro ⟨Aw, cw⟩ τ w34 H34
 dsimp only at H34
 simp only [upds, like, upd_ds, und_ds]
 refine FW_cut (fun z : Option Addr × Nat × HP => [(1, .slice z.1 (if l = [] then [(0, 0)] else l).length z.2.1), (2, I group), (6, selfP b6), (7, selfP b7)]) (fun z w' => ((if l = [] then [(0, 0)] else l).length ≤ z.2.1 ∧ ∀ rs w'', Sep w noB (z.2.2 :: rs) w'' → Rd w'' z.1 pairCells 2 (if l = [] then [(0, 0)] else l)) ∧ Sep w noB [z.2.2, blk b7 [.slice Aw (whereP wh).length cw, .slice none 0 0, I (-1)] 25, seeH (.slice Aw (whereP wh).length cw) stepCells 3 (whereP wh), blk b6 [.slice none 0 0, .slice none 0 0, I 0] 25] w') ?_ ?_
 ·refine Sr (Mv ?_)
  refine Vs ?_
  refine Ve ?_
  refine Qn (Cp rfl (fun hc39 => ?_) (fun hc39 => ?_))
  ·have he : l = [] := List.eq_nil_of_length_eq_zero (by omega)
   refine FW_region (Vv (Gives.buildArr (zs := [I 0, I 0]) (out := [I 0, I 0]) rfl (Fills.one rfl rfl rfl (by simp) rfl (Fills.one rfl rfl rfl (by simp) rfl Fills.nil))) (FL_buildSlice H34 (xs := [.tmp 28]) (out := [((0, 0) : Int × Int)].flatMap pairCells) (Elems.many rfl rfl Elems.nil) rfl rfl rfl (fun bz w43 H43 k42 => ?_)))
   refine Am ?_
   refine FL_nil ?_
   exact Qcut_normal (some ⟨bz, 0, none⟩, 1, _) ⟨by rw [if_pos he]; rfl, rfl, rfl, rfl, trivial⟩ ⟨⟨by rw [if_pos he]; exact Nat.le_refl _, fun rs w'' h => by rw [if_pos he]; exact Sep.blkRow h At0 rfl⟩, H43⟩
  have he : ¬ l = [] := fun e => hc39 (by rw [e]; rfl)
  refine FW_skip ?_
  exact Qcut_normal (A, m, pureH True) ⟨by rw [if_neg he]; rfl, rfl, rfl, rfl, trivial⟩ ⟨⟨by rw [if_neg he]; exact hm, fun rs w'' h => by rw [if_neg he]; exact hA.keep h.kept⟩, Sep.addPure trivial H34⟩
 rintro ⟨Ap, cp, hpp⟩ τ w49 ⟨⟨hle, hread⟩, H49⟩
 dsimp only at hle hread H49
 obtain ⟨L, hL⟩ : ∃ L, L = if l = [] then [(0, 0)] else l := ⟨_, rfl⟩
 rw [← hL] at hle hread ⊢
 have hps : pairsP l = L.take 16 := by rw [hL]; rfl
 obtain ⟨ps, hpse⟩ : ∃ ps, ps = pairsP l := ⟨_, rfl⟩
 rw [← hpse] at hp1 hp16 hps
 have hmin : Min.min ((L.length : Nat) : Int) 16 = ((ps.length : Nat) : Int) := by rw [hps, List.length_take]; omega
 have hpl : ps.length ≤ L.length := by rw [hps, List.length_take]; omega
 have hrd : ∀ {rs w''}, Sep w noB (hpp :: rs) w'' → Rd w'' Ap pairCells 2 ps := fun h => by rw [hps]; exact (hread _ _ h).cut 16
 simp only [upds, like, upd_ds]
 refine Sr (Mv ?_)
 refine Mv ?_
 refine Vs ?_
 refine Vv (Gives.minE rfl rfl hmin) (Vv (Gives.sliceTo (h := ps.length) rfl rfl (by omega)) ?_)
 refine Am ?_
 refine Qn (FW_cut (fun _ : Unit => [(1, .slice Ap ps.length cp), (6, selfP b6), (7, selfP b7)]) (fun _ w' => Sep w noB [hpp, blk b7 [.slice Aw (whereP wh).length cw, .slice none 0 0, I (groupP group ps.length)] 25, seeH (.slice Aw (whereP wh).length cw) stepCells 3 (whereP wh), blk b6 [.slice none 0 0, .slice none 0 0, I 0] 25] w') ?_ ?_)
 ·refine Sr (Mv ?_)
  refine FL_callQ H49 (bring_ok (k := group) (m := 4) (by decide) (by decide)) (h := fun w59 H59 k58 => ?_)
  obtain ⟨gq, hgq⟩ : ∃ gq : Nat, group % 4 = gq := ⟨(group % 4).toNat, by omega⟩
  rw [hgq]
  refine Vg ?_
  refine Qn (Cp rfl (fun hc61 => ?_) (fun hc61 => ?_))
  ·have hgp : groupP group ps.length = (group.tdiv 4) % ((ps.length + 1 : Nat) : Int) := by unfold groupP; rw [if_pos (by omega)]
   refine FW_region (Mv ?_)
   refine Vv (Gives.quo rfl rfl (by decide)) ?_
   rw [wrap_quo4 hg]
   refine Mv ?_
   refine Vs ?_
   refine Vv (Gives.addI (c := ((ps.length + 1 : Nat) : Int)) rfl rfl (by omega) (by omega)) (FL_callQ H59 (bring_ok (k := group.tdiv 4) (m := ((ps.length + 1 : Nat) : Int)) (by omega) (by omega)) (h := fun w69 H69 k68 => ?_))
   rw [← hgp]
   refine Vf ?_
   refine FL_store H69 (h := fun w72 H72 => ?_)
   refine FL_nil ?_
   exact Qcut_normal () ⟨rfl, rfl, rfl, trivial⟩ H72
  have hgp : groupP group ps.length = -1 := by unfold groupP; rw [if_neg (by omega)]
  refine FW_skip ?_
  exact Qcut_normal () ⟨rfl, rfl, rfl, trivial⟩ (by rw [hgp]; exact H59)
 intro _ τ w77 H77
 obtain ⟨g, hge⟩ : ∃ g, g = groupP group ps.length := ⟨_, rfl⟩
 rw [← hge] at H77
 simp only [upds, like, upd_ds]
 refine FW_seq (Sr (Am ?_))
 refine Qn (FW_block ?_)
 have H80 : Mw.Sep w noB [hpp, blk b7 [.slice Aw (whereP wh).length cw, .slice none 0 0, I g] 25, seeH (.slice Aw (whereP wh).length cw) stepCells 3 (whereP wh), rowD 53 2 outCells (.slice none 0 0) [], rawsH [] [], blk b6 [.slice none 0 0, .slice none 0 0, I 0] 25] w77 := by
  have h1 := Sep_rawNil (Sep.nilD H77 53 2 outCells)
  exact ((h1.front1).front4.front4).front4
 refine FW_loop' (fun x : Nat × (Option Addr × Nat) × List (List UInt8 × Value) => [(1, .slice Ap ps.length cp), (6, selfP b6), (7, selfP b7), (9, I x.1)]) (fun x w' => (x.1 ≤ ps.length ∧ x.2.2.length = x.1) ∧ Sep w noB [hpp, blk b7 [.slice Aw (whereP wh).length cw, .slice x.2.1.1 x.2.2.length x.2.1.2, I g] 25, seeH (.slice Aw (whereP wh).length cw) stepCells 3 (whereP wh), rowD 53 2 outCells (.slice x.2.1.1 x.2.2.length x.2.1.2) x.2.2, rawsH x.2.2 ((List.range x.1).map (colOf g ps)), blk b6 [.slice none 0 0, .slice none 0 0, I 0] 25] w') (fun x _ => ps.length - x.1) (0, (none, 0), []) ⟨rfl, rfl, rfl, rfl, trivial⟩ ⟨⟨Nat.zero_le _, rfl⟩, H80⟩ (fun x τ w80 hI => ?_)
 obtain ⟨i, ⟨Ac, cc⟩, r⟩ := x
 obtain ⟨⟨hi, hrl⟩, H80⟩ := hI
 dsimp only at hi hrl H80
 try simp only [upds, like, upd_ds]
 refine FW_seq (Sr (Mv ?_))
 refine Mv ?_
 refine Vs ?_
 refine Vl ?_
 refine Qn (Cp rfl (fun hc85 => ?_) (fun hc85 => ?_))
 ·have hlt : i < ps.length := by omega
  obtain ⟨y, hy⟩ := get_some hlt
  have hpd : ps.getD i (0, 0) = y := getD_of hy
  obtain ⟨q2, hq2⟩ : ∃ q : Nat, y.1 % 4 = q := ⟨(y.1 % 4).toNat, by omega⟩
  have hq24 : q2 < nameP.length := by show q2 < 4; omega
  obtain ⟨nm, hnm⟩ := get_some hq24
  have hnl := nameP_len nm (List.mem_of_getElem? hnm)
  have habc := abc_at ⟨i, by omega⟩
  dsimp only at habc
  have hcol : colOf g ps i = ⟨nm ++ [UInt8.ofNat (97 + i)], exprP y.2 (decide (0 ≤ g ∧ g ≤ i))⟩ := by
   unfold colOf
   rw [hpd, hq2, Int.toNat_natCast, getD_of hnm]
  refine Sk (FW_seq (FW_block (FW_seq (FW_drawS rfl H80 (h := fun hok87 w89 H89 => ?_)))))
  refine Gm hok87 1 ?_
  refine Gm hok87 2 ?_
  refine Gp hok87 3 rfl rfl (fun _ => (Gives.idxR (l := ps) (enc := pairCells) rfl rfl (by first | exact hrd H89 | exact hrd H89.front1) hlt)) ?_
  refine Gp hok87 4 rfl rfl (fun _ => (Gives.idxArrR (i := 0) rfl rfl (by first | exact hrd H89 | exact hrd H89.front1) (by omega) (by decide))) ?_
  refine Gl hok87 5 rfl rfl (Gives.loadW (i := i) (f := 0) (c := y) rfl (by first | exact hrd H89 | exact hrd H89.front1) hy rfl) ?_
  refine Gm hok87 9 ?_
  refine Gm hok87 10 ?_
  refine Gp hok87 11 rfl rfl (fun _ => (Gives.addI (c := ((i + 1 : Nat) : Int)) rfl rfl (by omega) (by omega))) (Gp hok87 12 rfl rfl (fun _ => (Gives.sliceBothT (l := [97, 98, 99, 100, 101, 102, 103, 104, 105, 106, 107, 108, 109, 110, 111, 112]) (i := i) (m := i + 1) rfl rfl rfl (by omega) (by show i + 1 ≤ 16; omega))) ?_)
  rw [habc]
  refine FG_two hok87 (e1 := 0) (e2 := 6) (by kernel_rfl) ?_ ?_
  ·refine step_buildSlice hok87 0 [(12, true), (11, true), (10, true), (9, true), (5, false), (4, true), (3, true), (2, true), (1, true)] H89 (xs := [_, _, _, _]) (out := nameP.flatMap textCells) (Elems.one rfl rfl (Elems.one rfl rfl (Elems.one rfl rfl (Elems.one rfl rfl Elems.nil)))) (h := fun bn w96 H96 => ⟨Stab_pure (Stab_pure (Stab_pure (Stab_pure ((Stab_cons rfl (by kernel_rfl) (Gives.loadW (i := i) (f := 0) (c := y) rfl (by first | exact hrd H96 | exact hrd H96.front1) hy rfl) rfl (Stab_pure (Stab_pure (Stab_pure (Stab_pure (Stab_nil)))))))))), ?_⟩)
   refine FGcallQ hok87 6 [(12, true), (11, true), (10, true), (9, true)] H96 (bring_ok (k := y.1) (m := 4) (by decide) (by decide)) (h := fun w98 H98 k97 => ?_)
   rw [hq2]
   refine ⟨Stab_pure (Stab_pure (Stab_pure (Stab_pure (Stab_nil)))), ?_⟩
   refine Gp hok87 7 rfl rfl (fun _ => (Gives.idxR (l := nameP) (enc := textCells) rfl rfl (show Rd _ (some ⟨bn, 0, none⟩) textCells 1 nameP from Sep.blkRow H98 At0 rfl) hq24)) (Gl hok87 8 rfl rfl (Gives.loadW (f := 0) rfl (show Rd _ (some ⟨bn, 0, none⟩) textCells 1 nameP from Sep.blkRow H98 At0 rfl) hnm rfl) ?_)
   refine Gp hok87 13 rfl rfl (fun _ => (Gives.catT rfl rfl (by first | omega | (simp; done) | (simp; omega)))) ?_
   refine Gp hok87 14 rfl rfl (fun _ => Gives.assign rfl) (FG_end hok87 (by kernel_rfl) ?_)
   refine Qseq_normal (FW_drawS rfl H98 (h := fun hok103 w105 H105 => ?_))
   refine Gp hok103 0 rfl rfl (fun _ => (Gives.field0 rfl)) (FGload hok103 1 H105 (h := ?_))
   refine Gm hok103 2 ?_
   refine Gm hok103 3 ?_
   refine Gm hok103 4 ?_
   refine Gp hok103 5 rfl rfl (fun _ => (Gives.idxR (l := ps) (enc := pairCells) rfl rfl (hrd H105.front1) hlt)) (Gp hok103 6 rfl rfl (fun _ => (Gives.idxArrR (i := 1) rfl rfl (hrd H105.front1) (by omega) (by decide))) ?_)
   refine Gl hok103 7 rfl rfl (Gives.loadW (i := i) (f := 1) (c := y) rfl (hrd H105.front1) hy rfl) (Gp hok103 8 rfl rfl (fun _ => (Gives.field0 rfl)) ?_)
   refine FGload hok103 9 H105 (h := ?_)
   refine Gp hok103 10 rfl rfl (fun _ => (Gives.geq rfl rfl)) (Gm hok103 11 ?_)
   refine FG_splitP (t := 76) rfl (fun hs114 => ?_) (fun hs114 => ?_)
   ·have hce : exprP y.2 (decide (g ≤ i)) = exprP y.2 (decide (0 ≤ g ∧ g ≤ i)) := by rw [show decide (g ≤ (i : Int)) = decide (0 ≤ g ∧ g ≤ i) from decide_eq_decide.2 ⟨fun h => ⟨by omega, h⟩, fun h => h.2⟩]
    refine Gm hok103 12 ?_
    refine Gp hok103 13 rfl rfl (fun _ => (Gives.field0 rfl)) (FGload hok103 14 H105 (h := ?_))
    refine Gp hok103 15 rfl rfl (fun _ => (Gives.geq rfl rfl)) (Gp hok103 16 rfl rfl (fun _ => Gives.pickT rfl rfl) ?_)
    refine FGcallN hok103 17 [(2, true), (1, false), (0, true)] H105 (expressionP_ok y.2 (decide (g ≤ i)) (hT.keep H105.kept)) (h := fun vx w121 _ H121 k120 => ?_)
    rw [hce] at H121
    obtain ⟨es, hes⟩ : ∃ es, es = exprP y.2 (decide (0 ≤ g ∧ g ≤ i)) := ⟨_, rfl⟩
    rw [← hes] at H121
    obtain ⟨Ax, cx, rfl, _, _⟩ := Sep.formD H121 At0
    refine ⟨Stab_pure (Stab_load H121 (h := Stab_pure (Stab_nil))), ?_⟩
    refine Gp hok103 18 rfl rfl (fun _ => (Gives.build (out := outCells (nm ++ [UInt8.ofNat (97 + i)], .slice Ax es.length cx)) (Fills.one rfl rfl rfl (by simp) rfl (Fills.one rfl rfl rfl (by simp) rfl Fills.nil)))) (FGbuildSlice hok103 19 [(1, false), (0, true)] H121 (xs := [.tmp 83]) (out := [(nm ++ [UInt8.ofNat (97 + i)], Value.slice Ax es.length cx)].flatMap outCells) (Elems.many rfl rfl Elems.nil) (h := fun bs w124 H124 => ⟨Stab_load H124 (h := Stab_pure (Stab_nil)), ?_⟩))
    refine FGappendD hok103 20 [] H124 (news := [(nm ++ [UInt8.ofNat (97 + i)], Value.slice Ax es.length cx)]) At5 (by unfold maxLen; simp; omega) (by simp; omega) (outs_one rfl) (h := fun v2 w126 H126 => ?_)
    obtain ⟨A2, c2, rfl, hc2, hA2⟩ := Sep.formD H126 At5
    refine ⟨Stab_nil, ?_⟩
    refine Gp hok103 21 rfl rfl (fun _ => (Gives.field0 rfl)) (FGstore hok103 22 [] H126 (h := fun w129 H129 => ⟨Stab_nil, ?_⟩))
    refine FG_end hok103 (by kernel_rfl) ?_
    refine Qblk_normal (Qseq_normal (FW_region (Mv ?_)))
    refine Vv (Gives.addI rfl rfl rfl (by omega)) (Am ?_)
    refine FL_nil ?_
    exact Qround_normal (i + 1, (A2, c2), r ++ [(nm ++ [UInt8.ofNat (97 + i)], Value.slice Ax es.length cx)]) ⟨rfl, rfl, rfl, rfl, trivial⟩ ⟨⟨by dsimp only; omega, by dsimp only; rw [List.length_append, List.length_singleton, hrl]⟩, by
    dsimp only
    rw [List.range_succ, List.map_append, List.map_cons, List.map_nil, hcol, ← hes]
    exact (((((Sep_rawPush (n := nm ++ [UInt8.ofNat (97 + i)]) (H129.front6.front1)).front1.drop0).front4).front4).front4).front4⟩ (by dsimp only; omega)
   have hce : exprP y.2 false = exprP y.2 (decide (0 ≤ g ∧ g ≤ i)) := by rw [decide_eq_false (show ¬ (0 ≤ g ∧ g ≤ i) by omega)]
   refine FGoff hok103 12 rfl rfl (by kernel_rfl) ?_
   refine FGoff hok103 13 rfl rfl (by kernel_rfl) ?_
   refine FGoff hok103 14 rfl rfl (by kernel_rfl) ?_
   refine FGoff hok103 15 rfl rfl (by kernel_rfl) ?_
   refine Gp hok103 16 rfl rfl (fun _ => Gives.pickF rfl rfl) (FGcallN hok103 17 [(2, true), (1, false), (0, true)] H105 (expressionP_ok y.2 false (hT.keep H105.kept)) (h := fun vx w137 _ H137 k136 => ?_))
   rw [hce] at H137
   obtain ⟨es, hes⟩ : ∃ es, es = exprP y.2 (decide (0 ≤ g ∧ g ≤ i)) := ⟨_, rfl⟩
   rw [← hes] at H137
   obtain ⟨Ax, cx, rfl, _, _⟩ := Sep.formD H137 At0
   refine ⟨Stab_pure (Stab_load H137 (h := Stab_pure (Stab_nil))), ?_⟩
   refine Gp hok103 18 rfl rfl (fun _ => (Gives.build (out := outCells (nm ++ [UInt8.ofNat (97 + i)], .slice Ax es.length cx)) (Fills.one rfl rfl rfl (by simp) rfl (Fills.one rfl rfl rfl (by simp) rfl Fills.nil)))) (FGbuildSlice hok103 19 [(1, false), (0, true)] H137 (xs := [.tmp 83]) (out := [(nm ++ [UInt8.ofNat (97 + i)], Value.slice Ax es.length cx)].flatMap outCells) (Elems.many rfl rfl Elems.nil) (h := fun bs w140 H140 => ⟨Stab_load H140 (h := Stab_pure (Stab_nil)), ?_⟩))
   refine FGappendD hok103 20 [] H140 (news := [(nm ++ [UInt8.ofNat (97 + i)], Value.slice Ax es.length cx)]) At5 (by unfold maxLen; simp; omega) (by simp; omega) (outs_one rfl) (h := fun v2 w142 H142 => ?_)
   obtain ⟨A2, c2, rfl, hc2, hA2⟩ := Sep.formD H142 At5
   refine ⟨Stab_nil, ?_⟩
   refine Gp hok103 21 rfl rfl (fun _ => (Gives.field0 rfl)) (FGstore hok103 22 [] H142 (h := fun w145 H145 => ⟨Stab_nil, ?_⟩))
   refine FG_end hok103 (by kernel_rfl) ?_
   refine Qblk_normal (Qseq_normal (FW_region (Mv ?_)))
   refine Vv (Gives.addI rfl rfl rfl (by omega)) (Am ?_)
   refine FL_nil ?_
   exact Qround_normal (i + 1, (A2, c2), r ++ [(nm ++ [UInt8.ofNat (97 + i)], Value.slice Ax es.length cx)]) ⟨rfl, rfl, rfl, rfl, trivial⟩ ⟨⟨by dsimp only; omega, by dsimp only; rw [List.length_append, List.length_singleton, hrl]⟩, by
   dsimp only
   rw [List.range_succ, List.map_append, List.map_cons, List.map_nil, hcol, ← hes]
   exact (((((Sep_rawPush (n := nm ++ [UInt8.ofNat (97 + i)]) (H145.front6.front1)).front1.drop0).front4).front4).front4).front4⟩ (by dsimp only; omega)
  refine step_callQ hok87 6 [(12, true), (11, true), (10, true), (9, true)] H89 (bring_ok (k := y.1) (m := 4) (by decide) (by decide)) (h := fun w151 H151 k150 => ?_)
  rw [hq2]
  refine ⟨Stab_pure (Stab_pure (Stab_pure (Stab_pure (Stab_nil)))), ?_⟩
  refine FGbuildSlice hok87 0 [(12, true), (11, true), (10, true), (9, true)] H151 (xs := [_, _, _, _]) (out := nameP.flatMap textCells) (Elems.one rfl rfl (Elems.one rfl rfl (Elems.one rfl rfl (Elems.one rfl rfl Elems.nil)))) (h := fun bn w153 H153 => ⟨Stab_pure (Stab_pure (Stab_pure (Stab_pure (Stab_nil)))), ?_⟩)
  refine Gp hok87 7 rfl rfl (fun _ => (Gives.idxR (l := nameP) (enc := textCells) rfl rfl (show Rd _ (some ⟨bn, 0, none⟩) textCells 1 nameP from Sep.blkRow H153 At0 rfl) hq24)) (Gl hok87 8 rfl rfl (Gives.loadW (f := 0) rfl (show Rd _ (some ⟨bn, 0, none⟩) textCells 1 nameP from Sep.blkRow H153 At0 rfl) hnm rfl) ?_)
  refine Gp hok87 13 rfl rfl (fun _ => (Gives.catT rfl rfl (by first | omega | (simp; done) | (simp; omega)))) ?_
  refine Gp hok87 14 rfl rfl (fun _ => Gives.assign rfl) (FG_end hok87 (by kernel_rfl) ?_)
  refine Qseq_normal (FW_drawS rfl H153 (h := fun hok158 w160 H160 => ?_))
  refine Gp hok158 0 rfl rfl (fun _ => (Gives.field0 rfl)) (FGload hok158 1 H160 (h := ?_))
  refine Gm hok158 2 ?_
  refine Gm hok158 3 ?_
  refine Gm hok158 4 ?_
  refine Gp hok158 5 rfl rfl (fun _ => (Gives.idxR (l := ps) (enc := pairCells) rfl rfl (hrd H160.front1) hlt)) (Gp hok158 6 rfl rfl (fun _ => (Gives.idxArrR (i := 1) rfl rfl (hrd H160.front1) (by omega) (by decide))) ?_)
  refine Gl hok158 7 rfl rfl (Gives.loadW (i := i) (f := 1) (c := y) rfl (hrd H160.front1) hy rfl) (Gp hok158 8 rfl rfl (fun _ => (Gives.field0 rfl)) ?_)
  refine FGload hok158 9 H160 (h := ?_)
  refine Gp hok158 10 rfl rfl (fun _ => (Gives.geq rfl rfl)) (Gm hok158 11 ?_)
  refine FG_splitP (t := 76) rfl (fun hs169 => ?_) (fun hs169 => ?_)
  ·have hce : exprP y.2 (decide (g ≤ i)) = exprP y.2 (decide (0 ≤ g ∧ g ≤ i)) := by rw [show decide (g ≤ (i : Int)) = decide (0 ≤ g ∧ g ≤ i) from decide_eq_decide.2 ⟨fun h => ⟨by omega, h⟩, fun h => h.2⟩]
   refine Gm hok158 12 ?_
   refine Gp hok158 13 rfl rfl (fun _ => (Gives.field0 rfl)) (FGload hok158 14 H160 (h := ?_))
   refine Gp hok158 15 rfl rfl (fun _ => (Gives.geq rfl rfl)) (Gp hok158 16 rfl rfl (fun _ => Gives.pickT rfl rfl) ?_)
   refine FGcallN hok158 17 [(2, true), (1, false), (0, true)] H160 (expressionP_ok y.2 (decide (g ≤ i)) (hT.keep H160.kept)) (h := fun vx w176 _ H176 k175 => ?_)
   rw [hce] at H176
   obtain ⟨es, hes⟩ : ∃ es, es = exprP y.2 (decide (0 ≤ g ∧ g ≤ i)) := ⟨_, rfl⟩
   rw [← hes] at H176
   obtain ⟨Ax, cx, rfl, _, _⟩ := Sep.formD H176 At0
   refine ⟨Stab_pure (Stab_load H176 (h := Stab_pure (Stab_nil))), ?_⟩
   refine Gp hok158 18 rfl rfl (fun _ => (Gives.build (out := outCells (nm ++ [UInt8.ofNat (97 + i)], .slice Ax es.length cx)) (Fills.one rfl rfl rfl (by simp) rfl (Fills.one rfl rfl rfl (by simp) rfl Fills.nil)))) (FGbuildSlice hok158 19 [(1, false), (0, true)] H176 (xs := [.tmp 83]) (out := [(nm ++ [UInt8.ofNat (97 + i)], Value.slice Ax es.length cx)].flatMap outCells) (Elems.many rfl rfl Elems.nil) (h := fun bs w179 H179 => ⟨Stab_load H179 (h := Stab_pure (Stab_nil)), ?_⟩))
   refine FGappendD hok158 20 [] H179 (news := [(nm ++ [UInt8.ofNat (97 + i)], Value.slice Ax es.length cx)]) At5 (by unfold maxLen; simp; omega) (by simp; omega) (outs_one rfl) (h := fun v2 w181 H181 => ?_)
   obtain ⟨A2, c2, rfl, hc2, hA2⟩ := Sep.formD H181 At5
   refine ⟨Stab_nil, ?_⟩
   refine Gp hok158 21 rfl rfl (fun _ => (Gives.field0 rfl)) (FGstore hok158 22 [] H181 (h := fun w184 H184 => ⟨Stab_nil, ?_⟩))
   refine FG_end hok158 (by kernel_rfl) ?_
   refine Qblk_normal (Qseq_normal (FW_region (Mv ?_)))
   refine Vv (Gives.addI rfl rfl rfl (by omega)) (Am ?_)
   refine FL_nil ?_
   exact Qround_normal (i + 1, (A2, c2), r ++ [(nm ++ [UInt8.ofNat (97 + i)], Value.slice Ax es.length cx)]) ⟨rfl, rfl, rfl, rfl, trivial⟩ ⟨⟨by dsimp only; omega, by dsimp only; rw [List.length_append, List.length_singleton, hrl]⟩, by
   dsimp only
   rw [List.range_succ, List.map_append, List.map_cons, List.map_nil, hcol, ← hes]
   exact (((((Sep_rawPush (n := nm ++ [UInt8.ofNat (97 + i)]) (H184.front6.front1)).front1.drop0).front4).front4).front4).front4⟩ (by dsimp only; omega)
  have hce : exprP y.2 false = exprP y.2 (decide (0 ≤ g ∧ g ≤ i)) := by rw [decide_eq_false (show ¬ (0 ≤ g ∧ g ≤ i) by omega)]
  refine FGoff hok158 12 rfl rfl (by kernel_rfl) ?_
  refine FGoff hok158 13 rfl rfl (by kernel_rfl) ?_
  refine FGoff hok158 14 rfl rfl (by kernel_rfl) ?_
  refine FGoff hok158 15 rfl rfl (by kernel_rfl) ?_
  refine Gp hok158 16 rfl rfl (fun _ => Gives.pickF rfl rfl) (FGcallN hok158 17 [(2, true), (1, false), (0, true)] H160 (expressionP_ok y.2 false (hT.keep H160.kept)) (h := fun vx w192 _ H192 k191 => ?_))
  rw [hce] at H192
  obtain ⟨es, hes⟩ : ∃ es, es = exprP y.2 (decide (0 ≤ g ∧ g ≤ i)) := ⟨_, rfl⟩
  rw [← hes] at H192
  obtain ⟨Ax, cx, rfl, _, _⟩ := Sep.formD H192 At0
  refine ⟨Stab_pure (Stab_load H192 (h := Stab_pure (Stab_nil))), ?_⟩
  refine Gp hok158 18 rfl rfl (fun _ => (Gives.build (out := outCells (nm ++ [UInt8.ofNat (97 + i)], .slice Ax es.length cx)) (Fills.one rfl rfl rfl (by simp) rfl (Fills.one rfl rfl rfl (by simp) rfl Fills.nil)))) (FGbuildSlice hok158 19 [(1, false), (0, true)] H192 (xs := [.tmp 83]) (out := [(nm ++ [UInt8.ofNat (97 + i)], Value.slice Ax es.length cx)].flatMap outCells) (Elems.many rfl rfl Elems.nil) (h := fun bs w195 H195 => ⟨Stab_load H195 (h := Stab_pure (Stab_nil)), ?_⟩))
  refine FGappendD hok158 20 [] H195 (news := [(nm ++ [UInt8.ofNat (97 + i)], Value.slice Ax es.length cx)]) At5 (by unfold maxLen; simp; omega) (by simp; omega) (outs_one rfl) (h := fun v2 w197 H197 => ?_)
  obtain ⟨A2, c2, rfl, hc2, hA2⟩ := Sep.formD H197 At5
  refine ⟨Stab_nil, ?_⟩
  refine Gp hok158 21 rfl rfl (fun _ => (Gives.field0 rfl)) (FGstore hok158 22 [] H197 (h := fun w200 H200 => ⟨Stab_nil, ?_⟩))
  refine FG_end hok158 (by kernel_rfl) ?_
  refine Qblk_normal (Qseq_normal (FW_region (Mv ?_)))
  refine Vv (Gives.addI rfl rfl rfl (by omega)) (Am ?_)
  refine FL_nil ?_
  exact Qround_normal (i + 1, (A2, c2), r ++ [(nm ++ [UInt8.ofNat (97 + i)], Value.slice Ax es.length cx)]) ⟨rfl, rfl, rfl, rfl, trivial⟩ ⟨⟨by dsimp only; omega, by dsimp only; rw [List.length_append, List.length_singleton, hrl]⟩, by
  dsimp only
  rw [List.range_succ, List.map_append, List.map_cons, List.map_nil, hcol, ← hes]
  exact (((((Sep_rawPush (n := nm ++ [UInt8.ofNat (97 + i)]) (H200.front6.front1)).front1.drop0).front4).front4).front4).front4⟩ (by dsimp only; omega)
 have hil : i = ps.length := by omega
 subst hil
 refine FW_exit (Qseq_exit (Qround_exit (Qblk_exit (Qseq_normal (Sr (FL_loadAll H80 (h := ?_)))))))
 refine FL_storeAll H80 (h := fun w208 H208 => ?_)
 refine Qn (FW_ret (QfnC_ret (h := ?_)))
 have hmade : madeP wh l group = ⟨whereP wh, (List.range ps.length).map (colOf g ps), g⟩ := by rw [hge, hpse]; rfl
 rw [hmade]
 exact ⟨_, resC1 H208, (_, _, r), rfl, trivial, (Sep.bundle (l := [_, _, _]) H208.drop0.drop0).first.turn⟩
end
theorem own_in {x : Value × Value × List (List UInt8 × Value)} {p : PlanM} {F : Nat → Prop} {w : World} (h : (ownH x p).ok F w) : PlanIn w (agg [x.1, x.2.1, I p.group]) p := by
 have H := Sep.parts (l := [seeH x.1 stepCells 3 p.wh, rowD 53 2 outCells x.2.1 x.2.2, rawsH x.2.2 p.cols]) (Sep.start1 h)
 exact ⟨x.1, x.2.1, rfl, Sep.sees H At0, x.2.2, Sep_in H At1, Sep.sees H At2⟩
section
variable {w : World}
theorem madePlan_ok {l : List (Int × Int)} {vl : Value} {wh group : Int} (hl : RowIn w vl pairCells 2 l) (hg : fits group) (hT : TabsX w) : Rets Tryz.prog 19 [I wh, vl, I group] w fun v w' => ∃ x, v = x ∧ True ∧ Turn noB (planH x (madeP wh l group)) w w' :=
 Calls.mono (made_ok hl hg hT) fun e w' he => by
  cases e with
  | returned v =>
   obtain ⟨x, rfl, _, hk, F', hq, hs⟩ := he
   exact ⟨_, rfl, trivial, hk, F', HP.look hq fun F w h => own_in h, hs⟩
  | _ => exact he.elim
theorem count10_ok (l : List UInt8) : Rets Tryz.prog 21 [str l, str [10]] w fun v w' => v = I ((l.count 10 : Nat) : Int) ∧ Kept noB w w' :=
 Calls.mono (Tryz.strings_Count_one ⟨l.toArray⟩ 10 w) fun e w' he => by
  obtain ⟨rfl, rfl⟩ := he
  exact ⟨rfl, Kept.refl _ _⟩
theorem planBack_ok {l : List (Int × Int)} {vl : Value} {wh group : Int} (hl : RowIn w vl pairCells 2 l) (hg : fits group) (hT : TabsX w) : Rets Tryz.prog 4 [I wh, vl, I group] w fun v w' => v = .bool true ∧ Kept noB w w' := by
 have H := Sep.start0 w
 obtain ⟨p, hp⟩ : ∃ p, p = madeP wh l group := ⟨_, rfl⟩
 obtain ⟨t, ht⟩ : ∃ t, t = unlines (linesP p) := ⟨_, rfl⟩
 obtain ⟨ht1, ht2, ht3⟩ := made_text wh l group
 have hfit := made_fit wh l group
 have hlen := madeP_len wh l group
 have hp16 := (pairs_len l).2
 rw [← hp] at ht1 ht2 ht3 hfit hlen
 rw [← ht] at ht1 ht2 ht3
 refine rets3 Tryz.func4 rfl rfl rfl rfl ?_
 refine Sr (Am ?_)
 refine Qn (FW_seq (Sr (FL_callQ H (worksP_ok (hT.keep H.kept)) (h := fun w3 H3 k2 => ?_))))
 refine Vv (Gives.not rfl) (Qn ?_)
 refine Cd rfl (fun hc5 => ?_) (fun hc5 => ?_)
 ·exact Bool.noConfusion hc5
 refine Sk (Sr (Mv ?_))
 refine Mv ?_
 refine Mv ?_
 refine FL_callN H3 (madePlan_ok (wh := wh) (hl.keep H3.kept) hg (hT.keep H3.kept)) (h := fun x w11 _ H11 k10 => ?_)
 rw [← hp] at H11
 obtain ⟨A, a, B, b, rfl⟩ := plan_form (Sep.sees H11 At0)
 refine FL_alloc H11 (h := fun b7 w13 H13 k12 => ?_)
 refine FL_storeAll H13 (h := fun w15 H15 => ?_)
 refine Nx (FL_loadAll H15 (h := ?_))
 refine FL_callQ H15 (textPE_ok (Sep.sees H15 At1) hfit.1 hfit.2 (by omega) (hT.keep H15.kept)) (h := fun w18 H18 k17 => ?_)
 rw [ht1]
 dsimp only
 refine Mv ?_
 refine Vx ?_
 refine Vx ?_
 refine Am ?_
 refine Am ?_
 refine Nx (Mv ?_)
 refine FL_callN H18 (parsePE_ok t (.inl (by omega)) (by omega) (hT.keep H18.kept)) (h := fun x w26 _ H26 k25 => ?_)
 rw [ht3.1] at H26 ⊢
 dsimp only at H26 ⊢
 obtain ⟨A2, a2, B2, b2, rfl⟩ := plan_form (Sep.sees H26 At0)
 refine Mv ?_
 refine Vx ?_
 refine Vx ?_
 refine Vx ?_
 refine FL_alloc H26 (h := fun b10 w32 H32 k31 => ?_)
 refine FL_storeAll H32 (h := fun w34 H34 => ?_)
 refine Am ?_
 refine Am ?_
 refine Qn (FW_seq (FW_drawS rfl H34 (h := fun hok37 w39 H39 => ?_)))
 refine Gm hok37 0 ?_
 refine Gp hok37 1 rfl rfl (fun _ => (Gives.eql rfl rfl)) (Gm hok37 2 ?_)
 refine FG_splitP (t := 32) rfl (fun hs41 => ?_) (fun hs41 => ?_)
 ·refine Gm hok37 3 ?_
  refine Gp hok37 4 rfl rfl (fun _ => (Gives.eql rfl rfl)) (Gp hok37 5 rfl rfl (fun _ => Gives.pickT rfl rfl) ?_)
  refine Gm hok37 6 ?_
  refine FG_splitP (t := 36) rfl (fun hs44 => ?_) (fun hs44 => ?_)
  ·refine Gm hok37 7 ?_
   refine Gp hok37 8 rfl rfl (fun _ => (Gives.eql rfl rfl)) (Gp hok37 9 rfl rfl (fun _ => Gives.pickT rfl rfl) ?_)
   refine Gm hok37 10 ?_
   refine FG_splitP (t := 40) rfl (fun hs47 => ?_) (fun hs47 => ?_)
   ·refine FGloadAll hok37 11 H39 (h := ?_)
    refine FGloadAll hok37 12 H39 (h := ?_)
    refine FGcallQ hok37 13 [] H39 (sameE_ok (p := p) (q := p) (Sep.sees H39 At3) (Sep.sees H39 At1)) (h := fun w51 H51 k50 => ?_)
    rw [decide_eq_true (rfl : p = p)]
    refine ⟨Stab_nil, ?_⟩
    refine Gp hok37 14 rfl rfl (fun _ => Gives.pickT rfl rfl) (Gm hok37 15 ?_)
    refine FG_split (t := 45) rfl (fun hs53 => ?_) (fun hs53 => ?_)
    ·refine Gm hok37 16 ?_
     refine Gp hok37 18 rfl rfl (fun _ => (Gives.field0 rfl)) (FGload hok37 19 H51 (h := ?_))
     refine Gp hok37 20 rfl rfl (fun _ => (Gives.lenSlice rfl)) (Gp hok37 21 rfl rfl (fun _ => (Gives.addI (c := ((p.cols.length + 2 : Nat) : Int)) rfl rfl (by omega) (by omega))) ?_)
     refine FGcallQ hok37 17 [(21, true), (20, true), (19, false), (18, true)] H51 (count10_ok t) (h := fun w59 H59 k58 => ⟨Stab_pure (Stab_pure (Stab_load H59 (h := Stab_pure (Stab_nil)))), ?_⟩)
     refine Gp hok37 22 rfl rfl (fun _ => (Gives.eql rfl rfl)) (Gp hok37 23 rfl rfl (fun _ => Gives.pickT rfl rfl) ?_)
     refine Gp hok37 24 rfl rfl (fun _ => Gives.assign rfl) (FG_end hok37 (by kernel_rfl) ?_)
     refine Qseq_normal (FW_ret (Qfn_ret (hR := ?_)))
     exact ⟨congrArg Value.bool (decide_eq_true (show ((t.count 10 : Nat) : Int) = ((p.cols.length + 2 : Nat) : Int) by rw [ht3.2])), H59.kept⟩
    exact absurd hs53 (by decide)
   exact (hs47 trivial).elim
  exact (hs44 trivial).elim
 exact (hs41 trivial).elim
end
end Go.Proofs.YtolaedhdjcnijaaGreatDoor
namespace Go.Mw
open Go.RowKit Go.ChangeShapes Go.WideShapes Go.Deep

section
variable {H : Type} {enc : TypeId × Value → H} {P : Program}
theorem trodAll_stays (hl : laidOutB P = true) {W W' : World} (hk : Kept noB W W') {sp : Nat → Bool} : ∀ {ts : List TypeId} {vs : List Value} {ds : List (DataW H)} {ps : List MemPlace}, (∀ t ∈ ts, P.readableRec t = true ∧ t < P.types.size) →
    DataW.TrodAll enc P W 0 (fun _ => true) true ts vs ds ps → (∀ x ∈ ps, x.block < W.heap.size) → (∀ x ∈ ps, sp x.block = true) → DataW.TrodAll enc P W' 0 sp true ts vs ds ps
  | [], [], [], _, _, h, _, _ => h
  | t :: ts, v :: vs, d :: ds, ps, ht, ⟨p, q, h1, h2, e⟩, hlt, hsp => by
    subst e
    exact ⟨p, q, WideElems.Trod_stays hl (ht t List.mem_cons_self).1 (ht t List.mem_cons_self).2 h1 (fun x hx => hk.below.same (hlt x (List.mem_append_left _ hx))) (fun x hx => hsp x (List.mem_append_left _ hx)),
      trodAll_stays hl hk (fun u hu => ht u (List.mem_cons_of_mem _ hu)) h2 (fun x hx => hlt x (List.mem_append_right _ hx)) (fun x hx => hsp x (List.mem_append_right _ hx)), rfl⟩
  | [], [], _ :: _, _, _, h, _, _ => h.elim
  | [], _ :: _, _, _, _, h, _, _ => by cases ‹List (DataW H)› <;> exact h.elim
  | _ :: _, [], _, _, _, h, _, _ => h.elim
  | _ :: _, _ :: _, [], _, _, h, _, _ => h.elim
theorem post_law {f : Func} {s : ChangeSpec} {apart fresh handsOn again : Bool} {W W' : World} {args : Array Value} {t : TypeId} {ds gs : List (DataW H)} {before : List MemPlace} (hl : laidOutB P = true)
    (hW : DataW.Whole enc P f.params.toList s.vars apart W args.toList ds gs before) (hvars : s.vars = []) (hr : f.resultTypes = #[t]) (hb : P.underlying t = some .bool) (hp0 : (f.params.toList.all fun t => P.readableRec t && decide (t < P.types.size)) = true)
    (hs : s.fn H (ds ++ gs) = { results := [.lit (.bool true)], args := ds }) (hk : Kept noB W W') (hok : Value.okWide P W' .any 0 t (.bool true)) : s.post enc P f apart fresh handsOn again W args (.bool true) W' := by
  have hp : ∀ t ∈ f.params.toList, P.readableRec t = true ∧ t < P.types.size := fun t ht => by
    have := List.all_eq_true.1 hp0 t ht
    simpa using this
  have hW' := hW
  obtain ⟨pa, pv, hA, hV, rfl, hz, hn⟩ := hW
  have hnil : gs = [] ∧ pv = [] := by
    rw [hvars] at hV
    exact trodVars_none hV
  obtain ⟨rfl, rfl⟩ := hnil
  have hlt : ∀ p ∈ pa, p.block < W.heap.size := fun p hp => hW'.lt p (List.mem_append_left _ hp)
  have hres : ∀ (b : Nat) (sp : Nat → Bool) (hd : Bool), DataW.TrodAll enc P W' b sp hd f.resultTypes.toList ((Value.bool true).resultList f.resultTypes.size) (s.fn H (ds ++ [])).results [] := by
    intro b sp hd
    rw [hs, hr]
    exact trodAll_mk1 (shut_bool hb true)
  have hargs : ∀ sp : Nat → Bool, (∀ p ∈ pa, sp p.block = true) → DataW.TrodAll enc P W' 0 sp true f.params.toList args.toList (s.fn H (ds ++ [])).args pa := by
    intro sp hsp
    rw [hs]
    exact trodAll_stays hl hk hp hA hlt hsp
  have hvs : ∀ sp : Nat → Bool, DataW.TrodVars enc P W' sp s.vars (s.fn H (ds ++ [])).vars [] := by
    intro sp
    rw [hvars, hs]
    exact rfl
  refine ⟨ds, [], pa ++ [], [], pa, [], hW', hres _ _ _, hargs _ (fun p hp => by simpa using hlt p hp), hvs _, World.keptBut_mono (fun p hp => ⟨hp, ?_⟩) (hk.below.frame (· ∈ pa ++ [])), fun _ => ?_⟩
  · simpa using hp
  refine ⟨fun j t' r hj hv => ?_, _, _, ([] ++ pa) ++ [], ⟨[] ++ pa, [], trodAll_append (hargs _ (fun _ _ => rfl)) (hres _ _ _), hvs _, rfl, ?_, ?_⟩, ?_⟩
  · exact ok_one hr rfl hok j t' r hj hv
  · intro b off hp
    have hin : MemPlace.cell b off ∈ pa := by simpa using hp
    rw [hk.below.frozen (hlt _ hin)]
    exact hz b off (by simpa using hin)
  · intro ha
    have := hn ha
    simpa using this
  intro p hp _
  simpa using hp
theorem exists_list {α : Type} {Q : Nat → α → Prop} : ∀ n : Nat, (∀ i, i < n → ∃ x, Q i x) → ∃ l : List α, l.length = n ∧ ∀ i x, l[i]? = some x → Q i x
 | 0, _ => ⟨[], rfl, fun i x h => by simp at h⟩
 | n + 1, h => by
  obtain ⟨l, h1, h2⟩ := exists_list n fun i hi => h i (by omega)
  obtain ⟨x, hx⟩ := h n (by omega)
  refine ⟨l ++ [x], by simp [h1], fun i y hy => ?_⟩
  rw [List.getElem?_append] at hy
  split at hy
  ·exact h2 i y hy
  rename_i hge
  have hi : i = n := by
   rcases Nat.lt_or_ge (i - l.length) 1 with h3 | h3
   ·omega
   rw [List.getElem?_eq_none (by simpa using h3)] at hy; cases hy
  subst hi
  rw [h1, Nat.sub_self] at hy
  injection hy with hy
  rw [← hy]; exact hx
theorem flatMap_get {α : Type} {f : α → List Value} {s : Nat} (hf : ∀ x, (f x).length = s) : ∀ (l : List α) (k : Nat) (v : Value), (l.flatMap f)[k]? = some v → ∃ i j x, l[i]? = some x ∧ (f x)[j]? = some v ∧ k = i * s + j
 | [], k, v, h => by simp at h
 | x :: l, k, v, h => by
  rw [List.flatMap_cons, List.getElem?_append] at h
  split at h
  ·exact ⟨0, k, x, rfl, h, by omega⟩
  rename_i hge
  obtain ⟨i, j, y, h1, h2, h3⟩ := flatMap_get hf l _ v h
  rw [hf] at h3 hge
  exact ⟨i + 1, j, y, by simpa using h1, h2, by rw [Nat.add_mul]; omega⟩
theorem flatMap_len {α : Type} {f : α → List Value} {s : Nat} (hf : ∀ x, (f x).length = s) : ∀ l : List α, (l.flatMap f).length = l.length * s
 | [] => by simp
 | x :: l => by rw [List.flatMap_cons, List.length_append, hf, flatMap_len hf l, List.length_cons, Nat.add_mul]; omega
theorem open_rows {α : Type} {f : α → List Value} {good : α → Prop} {s : Nat} {t e : TypeId} {W : World} {r : Reach} {base : Nat} {v : Value} {d : DataW H} {ps : List MemPlace} (ht : P.underlying t = some (.slice e)) (hC : P.cellsOf e = s) (hf : ∀ x, (f x).length = s)
    (hel : ∀ n cs y, cs.length = s → DataW.trod enc P W 0 (fun _ => true) true n e cs = some y → ∃ x, cs = f x ∧ good x) (hv : Value.okWide P W r base t v) (h : DataW.Trod enc P W 0 (fun _ => true) true t v d ps) :
    ∃ A c, ∃ l : List α, v = .slice A l.length c ∧ l.length ≤ c ∧ c ≤ maxLen ∧ RowAt W A l.length s (l.flatMap f) ∧ ∀ x ∈ l, good x := by
  obtain ⟨a0, len0, cap0, rfl⟩ := okWide_slice ht hv
  obtain ⟨fuel, hfu⟩ := h
  rcases open_slice ht hfu with ⟨h0, _⟩ | ⟨a, len, cap, m, n, D, Pl, hcs, _, hl, hm, hmm, _, hi⟩
  · have h0 : [Value.slice a0 len0 cap0] = [.slice none 0 0] := h0
    injection h0 with h0 _
    exact ⟨none, 0, [], h0, Nat.le_refl _, Nat.zero_le _, RowAt.nil _ _ _, fun _ h => by cases h⟩
  have hcs : [Value.slice a0 len0 cap0] = [.slice (some a) len cap] := hcs
  injection hcs with hcs _
  have hm2 : m = cap := by simpa using hmm
  subst hm2
  obtain ⟨l, h1, h2⟩ := exists_list (α := α) (Q := fun i x => good x ∧ ∀ j u, (f x)[j]? = some u → W.cell? (a.add (i * s + j)) = some u) len (fun i hi' => by
    obtain ⟨cs', hc, ht'⟩ := hi i (by omega)
    rw [hC] at hc
    obtain ⟨_, hcl, hat⟩ := World.cells?_some hc
    obtain ⟨x, hx, hg⟩ := hel _ _ _ hcl ht'
    refine ⟨x, hg, fun j u hu => ?_⟩
    have hj : j < s := by rw [← hf x]; exact (List.getElem?_eq_some_iff.1 hu).1
    have hcell := hat j hj
    rw [← Go.Deep.add_add, hcell, hx]
    exact hu)
  subst h1
  refine ⟨some a, m, l, hcs, hl, hm, ⟨flatMap_len hf l, fun _ => ⟨a, rfl, fun k u hk => ?_⟩⟩, fun x hx => ?_⟩
  · obtain ⟨i, j, x, hi', hj, rfl⟩ := flatMap_get hf l k u hk
    exact (h2 i x hi').2 j u hj
  obtain ⟨i, hi'⟩ := List.mem_iff_getElem?.1 hx
  exact (h2 i x hi').1
end
end Go.Mw
namespace Go.Proofs.YtolaedhdjcnijaaGreatDoor
open Go Go.Mw Go.Lib Go.RowKit
set_option maxRecDepth 100000
theorem ownIs : ownKnob Tryz.prog.godebug = none := by kernel_rfl
theorem laidIs : laidOutB Tryz.prog = true := by kernel_rfl
def laidL : List (String × DataW Unit) := [("math/bits.deBruijn32tab", Rows.laid_math_bits_deBruijn32tab), ("math/bits.deBruijn64tab", Rows.laid_math_bits_deBruijn64tab), ("internal/strconv.uint64pow10", Rows.laid_internal_strconv_uint64pow10), ("unicode/utf8.acceptRanges", Rows.laid_unicode_utf8_acceptRanges), ("strconv.ErrRange", Rows.laid_strconv_ErrRange), ("strconv.ErrSyntax", Rows.laid_strconv_ErrSyntax), ("unicode/utf8.first", Rows.laid_unicode_utf8_first)]
theorem u8extra : U8Extra Tryz.prog Tryz.lays260_ren := ⟨by kernel_rfl, by kernel_rfl, by kernel_rfl, by kernel_rfl, by kernel_rfl, by kernel_rfl, by kernel_rfl⟩
theorem first_eq : Rows.laid_unicode_utf8_first = firstData := Pinned.utf8First_eq
theorem accept_eq : (Rows.laid_unicode_utf8_acceptRanges : DataW Unit) = acceptData := by kernel_rfl
theorem pow_eq : (Rows.laid_internal_strconv_uint64pow10 : DataW Unit) = tabData .u64 pow10Tab := by kernel_rfl
theorem star_eq : "*" ++ "errors.errorString" = "*errors.errorString" := by decide
theorem errRow (u : TypeId) (h : Tryz.prog.typeName? 3 u = some "*errors.errorString") : u = 275 :=
 typeName_ptr_named (nm := "errors.errorString") (by rw [star_eq]; kernel_rfl) (by kernel_rfl) (by decide) u (by rw [star_eq]; exact h)
theorem cellsErr : Tryz.prog.cellsOf 277 = 1 := by kernel_rfl
theorem cellsStr : Tryz.prog.cellsOf 9 = 1 := by kernel_rfl
theorem tabsX_of {W : World} (h0 : laidMetH Tryz.prog laidL W) (hsh : W.ShapedOpen Tryz.prog) : TabsX W := by
 rw [MakeChecks.laidMetH_plain _ _ _ (by kernel_rfl)] at h0
 have h := h0
 refine ⟨?_, ?_, ?_, ?_, ?_⟩
 ·exact utf8Tabs_of_reads Tryz.lays260 u8extra (first_eq ▸ Lib.laidMet.reads h (by unfold laidL; simp)) (accept_eq ▸ Lib.laidMet.reads h (by unfold laidL; simp))
 ·obtain ⟨g, t, cs, fuel, p, hg, hty, hvar, hd⟩ := Lib.laidMet.reads (n := "internal/strconv.uint64pow10") h (by unfold laidL; exact .tail _ (.tail _ (.head _)))
  have hg' : Tryz.prog.globalNamed "internal/strconv.uint64pow10" = some 1 := by kernel_rfl
  obtain rfl := Option.some.inj (hg'.symm.trans hg)
  have hty' : (Tryz.prog.globals[1]?).map (·.type) = some 253 := by kernel_rfl
  obtain rfl := Option.some.inj (hty'.symm.trans hty)
  rw [pow_eq] at hd
  have hcs := cells_of_tab Tryz.underlying253 Tryz.underlying156 (by kernel_rfl) (by kernel_rfl) hd
  unfold Lib.TabIs
  rw [hvar, ← hcs]
 ·obtain ⟨a, s, hv, _⟩ := laid_sentinel (g := 2) (ti := 127) (tp := 275) (te := 277) (ts := 9) h.tail.tail.tail.tail.tail (by kernel_rfl) (by kernel_rfl) Tryz.underlying127 errRow Tryz.underlying275 Tryz.underlying277 rfl rfl Tryz.underlying9 cellsErr cellsStr
  exact ⟨_, _, hv⟩
 ·obtain ⟨a, s, hv, _⟩ := laid_sentinel (g := 3) (ti := 127) (tp := 275) (te := 277) (ts := 9) h.tail.tail.tail.tail (by kernel_rfl) (by kernel_rfl) Tryz.underlying127 errRow Tryz.underlying275 Tryz.underlying277 rfl rfl Tryz.underlying9 cellsErr cellsStr
  exact ⟨_, _, hv⟩
 exact Tryz.laysM219.s1_3 W hsh
end Go.Proofs.YtolaedhdjcnijaaGreatDoor
namespace Go.Proofs.YtolaedhdjcnijaaGreatDoor
open Go Go.Mw Go.ChangeShapes Go.WideShapes Go.RowKit
set_option maxRecDepth 4000
section
variable {H : Type} {enc : TypeId × Value → H} {W : World} {r : Reach} {base : Nat} {v : Value} {d : DataW H} {ps : List MemPlace}
theorem fits_of {n : Int} {k : IntKind} (hk : k = .i64) (h : (Lit.int k n).wf = true) : fits n := by
 subst hk
 simp [Lit.wf, IntKind.min, IntKind.max, IntKind.bits, IntKind.signed] at h
 unfold fits
 omega
theorem rowIn_of {α : Type} {f : α → List Value} {k c : Nat} {A : Option Addr} {l : List α} (hc : l.length ≤ c) (hm : c ≤ maxLen) (h : RowAt W A l.length k (l.flatMap f)) : RowIn W (.slice A l.length c) f k l :=
 ⟨A, c, rfl, ⟨hc, by unfold maxLen at hm; omega⟩, h⟩
end
end Go.Proofs.YtolaedhdjcnijaaGreatDoor
namespace Go.Mw
open Go.RowKit Go.ChangeShapes Go.WideShapes Go.Deep

section
variable {H : Type} {enc : TypeId × Value → H} {P : Program}
end
end Go.Mw
namespace Go.Proofs.YtolaedhdjcnijaaGreatDoor
open Go Go.Mw Go.ChangeShapes Go.WideShapes Go.RowKit
set_option maxRecDepth 4000
section
variable {H : Type} {enc : TypeId × Value → H} {W : World} {r : Reach} {base : Nat} {v : Value} {d : DataW H} {ps : List MemPlace}
theorem open_intX (hv : Value.okWide Tryz.prog W r base 3 v) (h : DataW.Trod enc Tryz.prog W 0 (fun _ => true) true 3 v d ps) : ∃ k, v = I k ∧ fits k := by
 obtain ⟨k0, rfl⟩ := okWide_int Tryz.underlying3 hv
 obtain ⟨fuel, hfu⟩ := h
 obtain ⟨k, hk, _, hw⟩ := DataW.trod_int Tryz.underlying3 hfu
 have hk : [Value.int .i64 k0] = [Value.int .i64 k] := hk
 injection hk with hk _
 injection hk with _ hk
 subst hk
 exact ⟨_, rfl, fits_of rfl hw⟩
end
section
variable {H : Type} {enc : TypeId × Value → H} {W : World} {r : Reach} {base : Nat} {v : Value} {d : DataW H} {ps : List MemPlace}
theorem pair_read {n : Nat} {cs : List Value} {y : DataW H × List MemPlace} (hl : cs.length = 2) (hc : DataW.trod enc Tryz.prog W 0 (fun _ => true) true n 95 cs = some y) : ∃ x : Int × Int, cs = pairCells x := by
 have hc1 : Tryz.prog.cellsOf 3 = 1 := by kernel_rfl
 match cs, hl with
 | [a, b], _ =>
  obtain ⟨xs, m, _, _, _, hxl, hx⟩ := DataW.trod_array Tryz.underlying95 hc
  have h0 := hx 0 (by decide)
  have h1 := hx 1 (by decide)
  rw [hc1] at h0 h1
  have g0 : xs[0]? = some (xs[0]'(by omega)) := List.getElem?_eq_getElem _
  have g1 : xs[1]? = some (xs[1]'(by omega)) := List.getElem?_eq_getElem _
  obtain ⟨i, hi, _, _⟩ := DataW.trod_int (cs := [a]) Tryz.underlying3 (h0.trans g0)
  obtain ⟨j, hj, _, _⟩ := DataW.trod_int (cs := [b]) Tryz.underlying3 (h1.trans g1)
  injection hi with hi _
  injection hj with hj _
  subst hi hj
  exact ⟨(i, j), rfl⟩
theorem open_pairs (hv : Value.okWide Tryz.prog W r base 35 v) (h : DataW.Trod enc Tryz.prog W 0 (fun _ => true) true 35 v d ps) : ∃ l : List (Int × Int), RowIn W v pairCells 2 l := by
 obtain ⟨A, c, l, rfl, h1, h2, h3, h4⟩ := open_rows (f := pairCells) (good := fun _ : Int × Int => True) (s := 2) Tryz.underlying35 (by kernel_rfl) (fun _ => rfl) (fun n cs y hl hc => (pair_read hl hc).imp fun _ h => ⟨h, trivial⟩) hv h
 exact ⟨l, rowIn_of h1 h2 h3⟩
end
end Go.Proofs.YtolaedhdjcnijaaGreatDoor
namespace Go.Proofs.YtolaedhdjcnijaaGreatDoor
open Go
def facts1 (P : Program) (f : FuncId) (fn : Func) (s : ChangeSpec) (c : OpenClaim) : Bool :=
 c.wf (OpenSpec.ofChange s) && laidOutB P && mapsRowed P &&
 fn.params.all (P.readableRec ·) && namedTie P c.named s.vars &&
 (c.stops == []) && (P.stops == []) && (c.knobs == []) && (P.stopKnobs == []) &&
 (c.inPlace == P.inPlace f) && (c.unfollowed == P.unfollowed f) && (c.recurses == P.recurses f) && (c.named == P.varsNamed f)
def facts2 (P : Program) (fn : Func) (s : ChangeSpec) (c : OpenClaim) : Bool :=
 (c.maps == (fn.params.toList ++ s.plain.varTypes P).any (P.mapsRec ·)) && (c.ifaces == (fn.params.toList ++ s.plain.varTypes P).any (P.ifacesRec ·)) && (c.mapsOut == P.mapsAmong fn.resultTypes.toList) &&
 (c.loops == (fn.params.toList ++ s.plain.varTypes P).any (P.loopsFrom ·)) && (c.wideKeys == (fn.params.toList ++ s.plain.varTypes P ++ fn.resultTypes.toList).any (P.wideKeysFrom ·)) &&
 s.vars.all (P.varReadable ·) && fn.resultTypes.all (fun t => P.readableRec t && decide (t < P.types.size)) && (c.ifacesOut == fn.resultTypes.toList.any (P.ifacesRec ·)) && (c.loopsOut == fn.resultTypes.toList.any (P.loopsFrom ·)) && (c.plainKeys == P.plainKeys) && c.shortTexts.isNone
def facts3 (P : Program) (fn : Func) (s : ChangeSpec) (c : OpenClaim) : Bool :=
 P.stopsHeard && P.mayEnter && (c.lifted == P.liftsFinal) && (P.make == some c.make) && (c.kinds == (if c.domain.isEmpty then [] else fn.params.toList.map fun t => match P.underlying t with | some (.int k) => some k | _ => none)) && (c.pinned == c.pinnedBy) &&
 (c.veiled == (fn.params.toList ++ s.plain.varTypes P ++ fn.resultTypes.toList).any (P.veiledRec ·)) && c.veiledFits P fn.params.toList (fn.params.toList ++ s.plain.varTypes P ++ fn.resultTypes.toList)
theorem joined_of {P : Program} {f : FuncId} {fn : Func} {s : ChangeSpec} {c : OpenClaim} (h1 : facts1 P f fn s c = true) (h2 : facts2 P fn s c = true) (h3 : facts3 P fn s c = true) : joinedFacts P f fn s c = true := by
 simp only [facts1, Bool.and_eq_true] at h1
 simp only [facts2, Bool.and_eq_true] at h2
 simp only [facts3, Bool.and_eq_true] at h3
 simp only [joinedFacts, Bool.and_eq_true]
 simp only [h1, h2, h3, and_self, and_true, true_and]
 exact h3.1.1.1.2
end Go.Proofs.YtolaedhdjcnijaaGreatDoor
