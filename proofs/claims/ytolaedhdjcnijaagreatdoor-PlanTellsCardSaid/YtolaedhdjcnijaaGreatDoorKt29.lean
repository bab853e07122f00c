/-
 The law ExprParts, walked.
-/
import Derived.Test.YtolaedhdjcnijaaGreatDoorKt28
import Derived.Test.YtolaedhdjcnijaaGreatDoorKt27
import Derived.Test.YtolaedhdjcnijaaGreatDoorKt6
import Derived.ProofKit
import Derived.Carry
import Derived.ChangeSame
import Derived.Deep.Slices
import Derived.Deep.Fields
import Derived.Test.YtolaedhdjcnijaaGreatDoorKt17
import Derived.Test.YtolaedhdjcnijaaGreatDoorRows
import Derived.PinnedBridge
import Derived.Lib.LaidU8
import Derived.Stop.LaidErr
import Derived.Deep.DeepHandedRow
import Derived.Lay
import Derived.MakeChecks
import Derived.Test.YtolaedhdjcnijaaGreatDoorKt15
import Derived.ChangeMaps5
import Derived.Test.YtolaedhdjcnijaaGreatDoorKt25
import Derived.OpenShut
import Derived.JoinedOf
set_option linter.unusedVariables false
set_option linter.unusedSimpArgs false
namespace Go.Proofs.YtolaedhdjcnijaaGreatDoor
open Go Go.Mw Go.Lib
set_option maxRecDepth 4000
section
variable {w : World}
end
section
variable {w : World}
end
end Go.Proofs.YtolaedhdjcnijaaGreatDoor
namespace Go.Mw
open Go.RowKit
section
variable {P : Program} {r : Option Nat} {n : Nat} {ops : Array Oper} {Q : Post} {rest : List Oper} {σ : St} {w w₀ : World} {S : Nat → Prop} {rs : List HP} {put : HP → List HP} {ty : TypeId} {pos : String} {after : Array Edge} {lv : List Bool} {pd : List (Nat × Bool)} {guard : Option (Nat × Bool)}
theorem FL_storeDN {α : Type} {enc : α → List Value} {k e c : Nat} {l : List α} {A : Option Addr} {x y : Operand} {T : TypeId} [h1 : Agg P T k] [hk : EncK enc k] {i : Nat} (a' : α) {m : Nat} (hm : m = l.length) (H : Sep w₀ S rs w) (hat : At rs (rowD e k enc (.slice A m c) l) put) (hi : i < l.length) (hv : (enc a').all Value.oneCell' = true)
    (h : ∀ w', Sep w₀ S (put (rowD e k enc (.slice A m c) (l.set i a'))) w' → FL P r n ops Q rest σ w') (hx : evF σ x = adr A (i * k) := by exact rfl) (hy : evF σ y = .agg (enc a').toArray := by exact rfl) :
    FL P r n ops Q ({ dst := none, op := .store T x y, type := ty, pos := pos, after := after, guard := none } :: rest) σ w := by
  obtain ⟨w', ha, hs⟩ := acts_storeDN (P := P) (ty := ty) (T := T) a' hm H hat hi hx hy hv
  exact FL_act ha rfl (h w' hs)
end
end Go.Mw
namespace Go.Proofs.YtolaedhdjcnijaaGreatDoor
open Go Go.Mw Go.Lib Go.RowKit
set_option maxRecDepth 4000
section
variable {w w₀ : World} {S : Nat → Prop} {rs : List HP} {put : HP → List HP}
end
/-! The words of the known expressions. -/
end Go.Proofs.YtolaedhdjcnijaaGreatDoor
namespace Go.Proofs.YtolaedhdjcnijaaGreatDoor
open Go Go.Mw Go.Lib
set_option maxRecDepth 4000
section
variable {w : World}
theorem planTells_ok {cols : List ColM} {p q : PlanM} {vc vp vq : Value} (hc : RowIn w vc colCells 7 cols) (hp : PlanIn w vp p) (hpf : AllFit p) (hq : PlanIn w vq q) (hqf : AllFit q) (hT : TabsX w) : Rets Tryz.prog 8 [vc, vp, vq] w fun v' w' => v' = .bool true ∧ Kept noB w w' := by
 have H := Sep.start0 w
 obtain ⟨Ac, mc, rfl, ⟨hmc, hmc'⟩, hAc⟩ := hc
 obtain ⟨A1, a1, B1, b1, rfl⟩ := plan_form hp
 obtain ⟨A2, a2, B2, b2, rfl⟩ := plan_form hq
 obtain ⟨P, hP⟩ : ∃ P, P = cutP p := ⟨_, rfl⟩
 obtain ⟨hPf, hP18, hPw, hPc⟩ := cutP_fit hpf
 rw [← hP] at hPf hP18 hPw hPc
 obtain ⟨U, hU⟩ : ∃ U, U = cutP q := ⟨_, rfl⟩
 obtain ⟨d, hd⟩ : ∃ d, d = cols.take 40 := ⟨_, rfl⟩
 have hdl : d.length ≤ 40 := by rw [hd, List.length_take]; omega
 have hdl2 : d.length ≤ cols.length := by rw [hd, List.length_take]; omega
 have hmin : Min.min ((cols.length : Nat) : Int) 40 = ((d.length : Nat) : Int) := by rw [hd, List.length_take]; omega
 obtain ⟨cr, hcr⟩ : ∃ cr, cr = checkP d P := ⟨_, rfl⟩
 obtain ⟨us, hus⟩ : ∃ us, us = usesP P := ⟨_, rfl⟩
 have hfx : ∀ x ∈ P.wh ++ P.cols.flatMap (·.steps), fits x.n := fun x hx => by
  rcases List.mem_append.1 hx with h | h
  ·exact hPf.1 x h
  obtain ⟨o, ho, hxo⟩ := List.mem_flatMap.1 h
  exact hPf.2 o ho x hxo
 refine rets3 Tryz.func8 rfl rfl rfl rfl ?_
 refine Sr (FL_box H (cs := [.slice A1 p.wh.length a1, .slice B1 p.cols.length b1, I p.group]) rfl (h := fun b4 w2 H2 k1 => ?_))
 refine FL_box H2 (cs := [.slice A2 q.wh.length a2, .slice B2 q.cols.length b2, I q.group]) rfl (h := fun b5 w4 H4 k3 => ?_)
 refine Am ?_
 refine Qn (FW_seq (FW_drawS rfl H4 (h := fun hok6 w8 H8 => ?_)))
 refine Gm hok6 0 ?_
 refine Gm hok6 1 ?_
 refine Gp hok6 2 rfl rfl (fun _ => (Gives.lenSlice rfl)) (Gp hok6 3 rfl rfl (fun _ => (Gives.minE rfl rfl hmin)) ?_)
 refine Gp hok6 4 rfl rfl (fun _ => (Gives.sliceTo (h := d.length) rfl rfl (by omega))) (FGloadAll hok6 6 H8 (h := ?_))
 refine FGloadAll hok6 8 H8 (h := ?_)
 refine FGcallN hok6 5 [(8, false), (6, false)] H8 (colsCopy_ok (l := d) ⟨Ac, mc, rfl, ⟨by omega, hmc'⟩, by rw [hd]; exact (hAc.keep H8.kept).cut 40⟩ (by omega)) (h := fun v1 w15 _ H15 k14 => ?_)
 obtain ⟨D1, c1, rfl, hc1, _⟩ := Sep.formD H15 At0
 refine ⟨(Stab_cons rfl (by kernel_rfl) (Gives.loadN (cs := [.slice A2 q.wh.length a2, .slice B2 q.cols.length b2, I q.group]) (E := 25) rfl (by first | exact H15.obj At1 | exact H15.obj At2) rfl rfl) rfl ((Stab_cons rfl (by kernel_rfl) (Gives.loadN (cs := [.slice A1 p.wh.length a1, .slice B1 p.cols.length b1, I p.group]) (E := 25) rfl (by first | exact H15.obj At2 | exact H15.obj At3) rfl rfl) rfl (Stab_nil)))), ?_⟩
 refine FGcallN hok6 7 [(8, false)] H15 (few_ok23 (hp.keep H15.kept)) (h := fun x w17 _ H17 k16 => ?_)
 rw [← hP] at H17
 obtain ⟨A, a, B, b, rfl⟩ := plan_form (Sep.sees H17 At0)
 refine ⟨(Stab_cons rfl (by kernel_rfl) (Gives.loadN (cs := [.slice A2 q.wh.length a2, .slice B2 q.cols.length b2, I q.group]) (E := 25) rfl (by first | exact H17.obj At1 | exact H17.obj At2) rfl rfl) rfl (Stab_nil)), ?_⟩
 refine FGcallN hok6 9 [] H17 (few_ok23 (hq.keep H17.kept)) (h := fun x w19 _ H19 k18 => ?_)
 rw [← hU] at H19
 obtain ⟨A', a', B', b', rfl⟩ := plan_form (Sep.sees H19 At0)
 refine ⟨Stab_nil, ?_⟩
 refine FGset hok6 10 [] (h := ⟨Stab_nil, ?_⟩)
 refine FGstoreAll hok6 11 [] H19 (h := fun w22 H22 => ⟨Stab_nil, ?_⟩)
 refine FGstoreAll hok6 12 [] H22 (h := fun w24 H24 => ⟨Stab_nil, ?_⟩)
 refine FG_end hok6 (by kernel_rfl) ?_
 refine Qseq_normal (FW_cut (fun z : Nat × (Option Addr × Nat) × (Option Addr × Nat) × (Option Addr × Nat) => [(0, .slice D1 d.length c1), (4, selfP b4), (5, selfP b5), (7, .slice z.2.1.1 d.length z.2.1.2), (8, selfP z.1)]) (fun z w' => Sep w noB [blk z.1 [.slice z.2.2.1.1 P.wh.length z.2.2.1.2, .slice z.2.2.2.1 P.cols.length z.2.2.2.2, I P.group] 25, blk b5 [.slice A' U.wh.length a', .slice B' U.cols.length b', I U.group] 25, blk b4 [.slice A P.wh.length a, .slice B P.cols.length b, I P.group] 25, planH (agg [.slice z.2.2.1.1 P.wh.length z.2.2.1.2, .slice z.2.2.2.1 P.cols.length z.2.2.2.2, I P.group]) P, planH (agg [.slice A' U.wh.length a', .slice B' U.cols.length b', I U.group]) U, planH (agg [.slice A P.wh.length a, .slice B P.cols.length b, I P.group]) P, rowD 49 7 colCells (.slice z.2.1.1 d.length z.2.1.2) d, rowD 49 7 colCells (.slice D1 d.length c1) d] w') ?_ ?_)
 ·refine FW_drawS rfl H24 (h := fun hok26 w28 H28 => ?_)
  refine Gm hok26 0 ?_
  refine FGloadAll hok26 2 H28 (h := ?_)
  refine FG_two hok26 (e1 := 1) (e2 := 4) (by kernel_rfl) ?_ ?_
  ·refine step_callN hok26 1 [(2, false)] H28 (colsCopy_ok (l := d) (by first | exact Sep_in H28 At2 | exact Sep_in H28 At3 | exact Sep_in H28 At4) (by omega)) (h := fun v2 w31 _ H31 k30 => ?_)
   obtain ⟨D2, c2, rfl, hc2, _⟩ := Sep.formD H31 At0
   refine ⟨(Stab_cons rfl (by kernel_rfl) (Gives.loadN (cs := [.slice A P.wh.length a, .slice B P.cols.length b, I P.group]) (E := 25) rfl (by first | exact H31.obj At5 | exact H31.obj At6) rfl rfl) rfl (Stab_nil)), ?_⟩
   refine FG_two hok26 (e1 := 3) (e2 := 4) (by kernel_rfl) ?_ ?_
   ·refine step_callN hok26 3 [] H31 (copyR_ok (p := P) (by first | exact Sep.sees H31 At2 | exact Sep.sees H31 At3) (by omega) (by omega) (fun o ho => by have := hPc o ho; omega)) (h := fun y w33 _ H33 k32 => ?_)
    obtain ⟨A8, a8, B8, c8, rfl⟩ := plan_form (Sep.sees H33 At0)
    refine ⟨Stab_nil, ?_⟩
    refine FGalloc hok26 4 [] H33 (h := fun b8 w35 H35 => ⟨Stab_nil, ?_⟩)
    refine Gp hok26 5 rfl rfl (fun _ => Gives.assign rfl) (FGstoreAll hok26 6 [] H35 (h := fun w38 H38 => ⟨Stab_nil, ?_⟩))
    refine FG_end hok26 (by kernel_rfl) ?_
    exact Qcut_normal (b8, (D2, c2), (A8, a8), (B8, c8)) ⟨rfl, rfl, rfl, rfl, rfl, trivial⟩ (by first | exact H38.front5.front2.front5.front5.front4.front7.front7.front7 | exact H38.front5.front3.front5.front5.front4.front7.front7.front7 | exact H38.front5.front3.front5.front5.front5.front7.front7.front7)
   refine step_alloc hok26 4 [(2, false)] H31 (h := fun b8 w41 H41 => ⟨(Stab_cons rfl (by kernel_rfl) (Gives.loadN (cs := [.slice A P.wh.length a, .slice B P.cols.length b, I P.group]) (E := 25) rfl (by first | exact H41.obj At5 | exact H41.obj At6) rfl rfl) rfl (Stab_nil)), ?_⟩)
   refine FGcallN hok26 3 [] H41 (copyR_ok (p := P) (by first | exact Sep.sees H41 At2 | exact Sep.sees H41 At3) (by omega) (by omega) (fun o ho => by have := hPc o ho; omega)) (h := fun y w43 _ H43 k42 => ?_)
   obtain ⟨A8, a8, B8, c8, rfl⟩ := plan_form (Sep.sees H43 At0)
   refine ⟨Stab_nil, ?_⟩
   refine Gp hok26 5 rfl rfl (fun _ => Gives.assign rfl) (FGstoreAll hok26 6 [] H43 (h := fun w46 H46 => ⟨Stab_nil, ?_⟩))
   refine FG_end hok26 (by kernel_rfl) ?_
   exact Qcut_normal (b8, (D2, c2), (A8, a8), (B8, c8)) ⟨rfl, rfl, rfl, rfl, rfl, trivial⟩ (by first | exact H46.front5.front2.front5.front5.front4.front7.front7.front7 | exact H46.front5.front3.front5.front5.front4.front7.front7.front7 | exact H46.front5.front3.front5.front5.front5.front7.front7.front7)
  refine step_alloc hok26 4 [(2, false), (0, true)] H28 (h := fun b8 w49 H49 => ⟨(Stab_cons rfl (by kernel_rfl) (Gives.loadN (cs := [.slice A P.wh.length a, .slice B P.cols.length b, I P.group]) (E := 25) rfl (by first | exact H49.obj At5 | exact H49.obj At6) rfl rfl) rfl (Stab_pure (Stab_nil))), ?_⟩)
  refine FGcallN hok26 1 [(2, false)] H49 (colsCopy_ok (l := d) (by first | exact Sep_in H49 At2 | exact Sep_in H49 At3 | exact Sep_in H49 At4) (by omega)) (h := fun v2 w51 _ H51 k50 => ?_)
  obtain ⟨D2, c2, rfl, hc2, _⟩ := Sep.formD H51 At0
  refine ⟨(Stab_cons rfl (by kernel_rfl) (Gives.loadN (cs := [.slice A P.wh.length a, .slice B P.cols.length b, I P.group]) (E := 25) rfl (by first | exact H51.obj At5 | exact H51.obj At6) rfl rfl) rfl (Stab_nil)), ?_⟩
  refine FGcallN hok26 3 [] H51 (copyR_ok (p := P) (by first | exact Sep.sees H51 At2 | exact Sep.sees H51 At3) (by omega) (by omega) (fun o ho => by have := hPc o ho; omega)) (h := fun y w53 _ H53 k52 => ?_)
  obtain ⟨A8, a8, B8, c8, rfl⟩ := plan_form (Sep.sees H53 At0)
  refine ⟨Stab_nil, ?_⟩
  refine Gp hok26 5 rfl rfl (fun _ => Gives.assign rfl) (FGstoreAll hok26 6 [] H53 (h := fun w56 H56 => ⟨Stab_nil, ?_⟩))
  refine FG_end hok26 (by kernel_rfl) ?_
  exact Qcut_normal (b8, (D2, c2), (A8, a8), (B8, c8)) ⟨rfl, rfl, rfl, rfl, rfl, trivial⟩ (by first | exact H56.front5.front2.front5.front5.front4.front7.front7.front7 | exact H56.front5.front3.front5.front5.front4.front7.front7.front7 | exact H56.front5.front3.front5.front5.front5.front7.front7.front7)
 rintro ⟨b8, ⟨D2, c2⟩, ⟨A8, a8⟩, ⟨B8, c8⟩⟩ τ w59 H59
 dsimp only at H59
 simp only [upds, like, upd_ds, und_ds]
 refine Sr (Mv ?_)
 refine FL_loadAll H59 (h := ?_)
 refine FL_callN H59 (checkE_ok (cols := d) (p := P) (Sep_in H59 At7) (Sep.sees H59 At5) hPf.1 hPf.2 (by omega) (hT.keep H59.kept)) (h := fun va w63 _ H63 k62 => ?_)
 rw [← hcr] at H63 ⊢
 obtain ⟨Va, ca, rfl, hca, _⟩ := Sep.formD H63 At0
 refine Mv ?_
 refine Vx ?_
 refine Vx ?_
 refine Am ?_
 refine Am ?_
 refine Nx (Mv ?_)
 refine FL_loadAll H63 (h := ?_)
 refine FL_callN H63 (checkR_ok (cols := d) (p := P) (Sep_in H63 At7) (Sep.sees H63 At4)) (h := fun vb w72 _ H72 k71 => ?_)
 rw [← hcr] at H72 ⊢
 obtain ⟨Vb, cb, rfl, _, _⟩ := Sep.formD H72 At0
 refine Mv ?_
 refine Vx ?_
 refine Vx ?_
 refine Am ?_
 refine Am ?_
 refine Nx (FL_loadAll H72 (h := ?_))
 refine FL_callN H72 (usesPE_ok (p := P) (Sep.sees H72 At7) (by omega) (by omega) (fun o ho => by have := hPc o ho; omega)) (h := fun vu w80 _ H80 k79 => ?_)
 rw [← hus] at H80
 obtain ⟨Vu, cu, rfl, hcu, _⟩ := Sep.formD H80 At0
 refine Am ?_
 refine Qn (FW_seq (FW_seq (FW_drawS rfl H80 (h := fun hok82 w84 H84 => ?_))))
 refine Gm hok82 0 ?_
 refine Gm hok82 1 ?_
 refine FGcallQ hok82 2 [] H84 (colsEq_ok (a := cr.1) (b := cr.1) (Sep_in H84 At2) (Sep_in H84 At1)) (h := fun w86 H86 k85 => ⟨Stab_nil, ?_⟩)
 refine Gp hok82 3 rfl rfl (fun _ => (Gives.notP rfl)) (Gm hok82 4 ?_)
 refine FG_splitP (t := 48) rfl (fun hs88 => ?_) (fun hs88 => ?_)
 ·exact (hs88 trivial).elim
 refine Gm hok82 5 ?_
 refine Gm hok82 6 ?_
 refine Gp hok82 7 rfl rfl (fun _ => (Gives.neq rfl rfl)) (Gp hok82 8 rfl rfl (fun _ => Gives.pickF rfl rfl) ?_)
 refine Gm hok82 9 ?_
 refine FG_splitP (t := 53) rfl (fun hs92 => ?_) (fun hs92 => ?_)
 ·exact (hs92 trivial).elim
 refine Gm hok82 10 ?_
 refine FGloadAll hok82 11 H86 (h := ?_)
 refine FGcallN hok82 12 [(10, true)] H86 (usesPR_ok (p := P) (Sep.sees H86 At6) hfx (by omega) (by omega) (fun o ho => by have := hPc o ho; omega)) (h := fun vu2 w96 _ H96 k95 => ?_)
 rw [← hus] at H96
 obtain ⟨Vu2, cu2, rfl, _, _⟩ := Sep.formD H96 At0
 refine ⟨Stab_pure (Stab_nil), ?_⟩
 refine FGcallQ hok82 13 [] H96 (intsEq_ok (a := us) (b := us) (Sep_in H96 At1) (Sep_in H96 At0)) (h := fun w98 H98 k97 => ⟨Stab_nil, ?_⟩)
 refine Gp hok82 14 rfl rfl (fun _ => (Gives.notP rfl)) (Gp hok82 15 rfl rfl (fun _ => Gives.pickF rfl rfl) ?_)
 refine Gm hok82 16 ?_
 refine FG_splitP (t := 60) rfl (fun hs101 => ?_) (fun hs101 => ?_)
 ·exact (hs101 trivial).elim
 refine FGloadAll hok82 17 H98 (h := ?_)
 refine FGloadAll hok82 18 H98 (h := ?_)
 refine FGloadAll hok82 20 H98 (h := ?_)
 refine FGloadAll hok82 21 H98 (h := ?_)
 refine FGcallQ hok82 19 [(21, false), (20, false)] H98 (sameE_ok (p := P) (q := U) (Sep.sees H98 At9) (Sep.sees H98 At8)) (h := fun w108 H108 k107 => ⟨(Stab_cons rfl (by kernel_rfl) (Gives.loadN (cs := [.slice A' U.wh.length a', .slice B' U.cols.length b', I U.group]) (E := 25) rfl (H108.obj At5) rfl rfl) rfl ((Stab_cons rfl (by kernel_rfl) (Gives.loadN (cs := [.slice A8 P.wh.length a8, .slice B8 P.cols.length c8, I P.group]) (E := 25) rfl (H108.obj At4) rfl rfl) rfl (Stab_nil)))), ?_⟩)
 refine FGcallQ hok82 22 [] H108 (sameR_ok (p := P) (q := U) (Sep.sees H108 At7) (Sep.sees H108 At8)) (h := fun w110 H110 k109 => ⟨Stab_nil, ?_⟩)
 refine Gp hok82 23 rfl rfl (fun _ => (Gives.neqB rfl rfl)) (Gp hok82 24 rfl rfl (fun _ => Gives.pickF rfl rfl) ?_)
 refine Gm hok82 25 ?_
 refine FG_split (t := 69) rfl (fun hs113 => ?_) (fun hs113 => ?_)
 ·exact absurd hs113 (by simp)
 refine FGloadAll hok82 26 H110 (h := ?_)
 refine FGloadAll hok82 27 H110 (h := ?_)
 refine FGcallQ hok82 28 [] H110 (sameE_ok (p := P) (q := P) (Sep.sees H110 At9) (Sep.sees H110 At7)) (h := fun w118 H118 k117 => ⟨Stab_nil, ?_⟩)
 refine Gp hok82 29 rfl rfl (fun _ => (Gives.notP rfl)) (Gp hok82 30 rfl rfl (fun _ => Gives.pickF rfl rfl) ?_)
 refine FG_end hok82 (by kernel_rfl) ?_
 refine Qseq_normal (Cp rfl (fun hc121 => ?_) (fun hc121 => ?_))
 ·exact absurd rfl hc121
 refine Sk (FW_seq (Sr (Am ?_)))
 refine Qn (FW_block ?_)
 have H125 := H118.drop0.front1.drop0.front1.front3.drop0.front5.drop0
 refine FW_loop' (fun x : Nat × List ColM => [(0, .slice D1 d.length c1), (4, selfP b4), (7, .slice D2 d.length c2), (8, selfP b8), (9, .slice Va cr.1.length ca), (13, .slice Vu us.length cu), (14, I x.1)]) (fun x w' => (x.1 ≤ cr.1.length ∧ cr.1.length = x.2.length) ∧ Sep w noB [rowD 49 7 colCells (.slice Va cr.1.length ca) x.2, rowD 3 1 intCells (.slice Vu us.length cu) us, blk b8 [.slice A8 P.wh.length a8, .slice B8 P.cols.length c8, I P.group] 25, blk b4 [.slice A P.wh.length a, .slice B P.cols.length b, I P.group] 25, planH (agg [.slice A8 P.wh.length a8, .slice B8 P.cols.length c8, I P.group]) P, planH (agg [.slice A P.wh.length a, .slice B P.cols.length b, I P.group]) P, rowD 49 7 colCells (.slice D2 d.length c2) d, rowD 49 7 colCells (.slice D1 d.length c1) d] w') (fun x _ => cr.1.length - x.1) (0, cr.1) ⟨rfl, rfl, rfl, rfl, rfl, rfl, rfl, trivial⟩ ⟨⟨Nat.zero_le _, rfl⟩, H125⟩ (fun x τ w125 hI => ?_)
 obtain ⟨i, cur⟩ := x
 obtain ⟨⟨hi, hcur⟩, H125⟩ := hI
 dsimp only at hi hcur H125
 try simp only [upds, like, upd_ds]
 refine FW_seq (Sr (Mv ?_))
 refine Mv ?_
 refine Vs ?_
 refine Vl ?_
 refine Qn (Cp rfl (fun hc130 => ?_) (fun hc130 => ?_))
 ·have hlt : i < cur.length := by omega
  have hcap := Sep.capD H125 At0
  refine Sk (FW_seq (FW_block (FW_region (Mv ?_))))
  refine Mv ?_
  refine Vv (Gives.build (out := colCells ⟨-9, [], ⟨0, false⟩, cell0⟩) (Fills.one rfl rfl rfl (by simp) rfl Fills.nil)) (Vv (Gives.idxN hcur rfl rfl (Sep_rdN hcur H125 At0) hlt) ?_)
  refine FL_storeDN (i := i) (⟨-9, [], ⟨0, false⟩, cell0⟩ : ColM) hcur H125 At0 hlt rfl (h := fun w137 H137 => ?_)
  refine FL_nil (Qblk_normal (Qseq_normal (FW_region (Mv ?_))))
  refine Vv (Gives.addI rfl rfl rfl (by omega)) (Am ?_)
  refine FL_nil ?_
  exact Qround_normal (i + 1, cur.set i ⟨-9, [], ⟨0, false⟩, cell0⟩) ⟨rfl, rfl, rfl, rfl, rfl, rfl, rfl, trivial⟩ ⟨⟨by dsimp only; omega, by rw [List.length_set]; exact hcur⟩, H137⟩ (by dsimp only; omega)
 refine FW_exit (Qseq_exit (Qround_exit (Qblk_exit (Qseq_normal (FW_seq (Sr (Am ?_)))))))
 refine Qn (FW_block ?_)
 have H144 := H125.drop0
 refine FW_loop' (fun x : Nat × List Int => [(0, .slice D1 d.length c1), (4, selfP b4), (7, .slice D2 d.length c2), (8, selfP b8), (13, .slice Vu us.length cu), (15, I x.1)]) (fun x w' => (x.1 ≤ us.length ∧ us.length = x.2.length) ∧ Sep w noB [rowD 3 1 intCells (.slice Vu us.length cu) x.2, blk b8 [.slice A8 P.wh.length a8, .slice B8 P.cols.length c8, I P.group] 25, blk b4 [.slice A P.wh.length a, .slice B P.cols.length b, I P.group] 25, planH (agg [.slice A8 P.wh.length a8, .slice B8 P.cols.length c8, I P.group]) P, planH (agg [.slice A P.wh.length a, .slice B P.cols.length b, I P.group]) P, rowD 49 7 colCells (.slice D2 d.length c2) d, rowD 49 7 colCells (.slice D1 d.length c1) d] w') (fun x _ => us.length - x.1) (0, us) ⟨rfl, rfl, rfl, rfl, rfl, rfl, trivial⟩ ⟨⟨Nat.zero_le _, rfl⟩, H144⟩ (fun x τ w144 hI => ?_)
 obtain ⟨j, cur2⟩ := x
 obtain ⟨⟨hj, hcur2⟩, H144⟩ := hI
 dsimp only at hj hcur2 H144
 try simp only [upds, like, upd_ds]
 refine FW_seq (Sr (Mv ?_))
 refine Mv ?_
 refine Vs ?_
 refine Vl ?_
 refine Qn (Cp rfl (fun hc149 => ?_) (fun hc149 => ?_))
 ·have hlt2 : j < cur2.length := by omega
  have hcap := Sep.capD H144 At0
  obtain ⟨z, hz⟩ := get_some hlt2
  refine Sk (FW_seq (FW_block (FW_region (Mv ?_))))
  refine Mv ?_
  refine Vv (Gives.idxN hcur2 rfl rfl (Sep_rdN hcur2 H144 At0) hlt2) (FL_storeD (i := j) (f := 0) (a := z) (-9) hcur2 H144 At0 hz (by decide) rfl rfl rfl rfl (h := fun w155 H155 => ?_))
  refine FL_nil (Qblk_normal (Qseq_normal (FW_region (Mv ?_))))
  refine Vv (Gives.addI rfl rfl rfl (by omega)) (Am ?_)
  refine FL_nil ?_
  exact Qround_normal (j + 1, cur2.set j (-9)) ⟨rfl, rfl, rfl, rfl, rfl, rfl, trivial⟩ ⟨⟨by dsimp only; omega, by rw [List.length_set]; exact hcur2⟩, H155⟩ (by dsimp only; omega)
 refine FW_exit (Qseq_exit (Qround_exit (Qblk_exit (Qseq_normal (Sr (FL_loadAll H144 (h := ?_)))))))
 refine FL_loadAll H144 (h := ?_)
 refine FL_callQ H144 (sameR_ok (p := P) (q := P) (Sep.sees H144 At4) (Sep.sees H144 At3)) (h := fun w163 H163 k162 => ?_)
 refine Mv ?_
 refine FL_splitP (t := 97) rfl (fun hs165 => ?_) (fun hs165 => ?_)
 ·refine On (Mv ?_)
  refine On (Mv ?_)
  refine On (FL_callQ H163 (colsEq_ok (a := d) (b := d) (Sep_in H163 At6) (Sep_in H163 At5)) (h := fun w169 H169 k168 => ?_))
  refine Pt ?_
  refine Mv ?_
  refine FL_splitP (t := 102) rfl (fun hs172 => ?_) (fun hs172 => ?_)
  ·refine On (FL_callQ H169 (worksP_ok (hT.keep H169.kept)) (h := fun w174 H174 k173 => ?_))
   refine Pt ?_
   refine Am ?_
   refine Qn (FW_ret (Qfn_ret (hR := ?_)))
   exact ⟨rfl, H174.kept⟩
  exact (hs172 trivial).elim
 exact (hs165 trivial).elim
end
end Go.Proofs.YtolaedhdjcnijaaGreatDoor
namespace Go.Mw
open Go.RowKit Go.ChangeShapes Go.WideShapes Go.Deep

section
variable {H : Type} {enc : TypeId × Value → H} {P : Program}
theorem trodAll_stays (hl : laidOutB P = true) {W W' : World} (hk : Kept noB W W') {sp : Nat → Bool} : ∀ {ts : List TypeId} {vs : List Value} {ds : List (DataW H)} {ps : List MemPlace}, (∀ t ∈ ts, P.readableRec t = true ∧ t < P.types.size) →
    DataW.TrodAll enc P W 0 (fun _ => true) true ts vs ds ps → (∀ x ∈ ps, x.block < W.heap.size) → (∀ x ∈ ps, sp x.block = true) → DataW.TrodAll enc P W' 0 sp true ts vs ds ps
  | [], [], [], _, _, h, _, _ => h
  | t :: ts, v :: vs, d :: ds, ps, ht, ⟨p, q, h1, h2, e⟩, hlt, hsp => by
    subst e
    exact ⟨p, q, WideElems.Trod_stays hl (ht t List.mem_cons_self).1 (ht t List.mem_cons_self).2 h1 (fun x hx => hk.below.same (hlt x (List.mem_append_left _ hx))) (fun x hx => hsp x (List.mem_append_left _ hx)),
      trodAll_stays hl hk (fun u hu => ht u (List.mem_cons_of_mem _ hu)) h2 (fun x hx => hlt x (List.mem_append_right _ hx)) (fun x hx => hsp x (List.mem_append_right _ hx)), rfl⟩
  | [], [], _ :: _, _, _, h, _, _ => h.elim
  | [], _ :: _, _, _, _, h, _, _ => by cases ‹List (DataW H)› <;> exact h.elim
  | _ :: _, [], _, _, _, h, _, _ => h.elim
  | _ :: _, _ :: _, [], _, _, h, _, _ => h.elim
theorem post_law {f : Func} {s : ChangeSpec} {apart fresh handsOn again : Bool} {W W' : World} {args : Array Value} {t : TypeId} {ds gs : List (DataW H)} {before : List MemPlace} (hl : laidOutB P = true)
    (hW : DataW.Whole enc P f.params.toList s.vars apart W args.toList ds gs before) (hvars : s.vars = []) (hr : f.resultTypes = #[t]) (hb : P.underlying t = some .bool) (hp0 : (f.params.toList.all fun t => P.readableRec t && decide (t < P.types.size)) = true)
    (hs : s.fn H (ds ++ gs) = { results := [.lit (.bool true)], args := ds }) (hk : Kept noB W W') (hok : Value.okWide P W' .any 0 t (.bool true)) : s.post enc P f apart fresh handsOn again W args (.bool true) W' := by
  have hp : ∀ t ∈ f.params.toList, P.readableRec t = true ∧ t < P.types.size := fun t ht => by
    have := List.all_eq_true.1 hp0 t ht
    simpa using this
  have hW' := hW
  obtain ⟨pa, pv, hA, hV, rfl, hz, hn⟩ := hW
  have hnil : gs = [] ∧ pv = [] := by
    rw [hvars] at hV
    exact trodVars_none hV
  obtain ⟨rfl, rfl⟩ := hnil
  have hlt : ∀ p ∈ pa, p.block < W.heap.size := fun p hp => hW'.lt p (List.mem_append_left _ hp)
  have hres : ∀ (b : Nat) (sp : Nat → Bool) (hd : Bool), DataW.TrodAll enc P W' b sp hd f.resultTypes.toList ((Value.bool true).resultList f.resultTypes.size) (s.fn H (ds ++ [])).results [] := by
    intro b sp hd
    rw [hs, hr]
    exact trodAll_mk1 (shut_bool hb true)
  have hargs : ∀ sp : Nat → Bool, (∀ p ∈ pa, sp p.block = true) → DataW.TrodAll enc P W' 0 sp true f.params.toList args.toList (s.fn H (ds ++ [])).args pa := by
    intro sp hsp
    rw [hs]
    exact trodAll_stays hl hk hp hA hlt hsp
  have hvs : ∀ sp : Nat → Bool, DataW.TrodVars enc P W' sp s.vars (s.fn H (ds ++ [])).vars [] := by
    intro sp
    rw [hvars, hs]
    exact rfl
  refine ⟨ds, [], pa ++ [], [], pa, [], hW', hres _ _ _, hargs _ (fun p hp => by simpa using hlt p hp), hvs _, World.keptBut_mono (fun p hp => ⟨hp, ?_⟩) (hk.below.frame (· ∈ pa ++ [])), fun _ => ?_⟩
  · simpa using hp
  refine ⟨fun j t' r hj hv => ?_, _, _, ([] ++ pa) ++ [], ⟨[] ++ pa, [], trodAll_append (hargs _ (fun _ _ => rfl)) (hres _ _ _), hvs _, rfl, ?_, ?_⟩, ?_⟩
  · exact ok_one hr rfl hok j t' r hj hv
  · intro b off hp
    have hin : MemPlace.cell b off ∈ pa := by simpa using hp
    rw [hk.below.frozen (hlt _ hin)]
    exact hz b off (by simpa using hin)
  · intro ha
    have := hn ha
    simpa using this
  intro p hp _
  simpa using hp
theorem exists_list {α : Type} {Q : Nat → α → Prop} : ∀ n : Nat, (∀ i, i < n → ∃ x, Q i x) → ∃ l : List α, l.length = n ∧ ∀ i x, l[i]? = some x → Q i x
 | 0, _ => ⟨[], rfl, fun i x h => by simp at h⟩
 | n + 1, h => by
  obtain ⟨l, h1, h2⟩ := exists_list n fun i hi => h i (by omega)
  obtain ⟨x, hx⟩ := h n (by omega)
  refine ⟨l ++ [x], by simp [h1], fun i y hy => ?_⟩
  rw [List.getElem?_append] at hy
  split at hy
  ·exact h2 i y hy
  rename_i hge
  have hi : i = n := by
   rcases Nat.lt_or_ge (i - l.length) 1 with h3 | h3
   ·omega
   rw [List.getElem?_eq_none (by simpa using h3)] at hy; cases hy
  subst hi
  rw [h1, Nat.sub_self] at hy
  injection hy with hy
  rw [← hy]; exact hx
theorem flatMap_get {α : Type} {f : α → List Value} {s : Nat} (hf : ∀ x, (f x).length = s) : ∀ (l : List α) (k : Nat) (v : Value), (l.flatMap f)[k]? = some v → ∃ i j x, l[i]? = some x ∧ (f x)[j]? = some v ∧ k = i * s + j
 | [], k, v, h => by simp at h
 | x :: l, k, v, h => by
  rw [List.flatMap_cons, List.getElem?_append] at h
  split at h
  ·exact ⟨0, k, x, rfl, h, by omega⟩
  rename_i hge
  obtain ⟨i, j, y, h1, h2, h3⟩ := flatMap_get hf l _ v h
  rw [hf] at h3 hge
  exact ⟨i + 1, j, y, by simpa using h1, h2, by rw [Nat.add_mul]; omega⟩
theorem flatMap_len {α : Type} {f : α → List Value} {s : Nat} (hf : ∀ x, (f x).length = s) : ∀ l : List α, (l.flatMap f).length = l.length * s
 | [] => by simp
 | x :: l => by rw [List.flatMap_cons, List.length_append, hf, flatMap_len hf l, List.length_cons, Nat.add_mul]; omega
theorem open_rows {α : Type} {f : α → List Value} {good : α → Prop} {s : Nat} {t e : TypeId} {W : World} {r : Reach} {base : Nat} {v : Value} {d : DataW H} {ps : List MemPlace} (ht : P.underlying t = some (.slice e)) (hC : P.cellsOf e = s) (hf : ∀ x, (f x).length = s)
    (hel : ∀ n cs y, cs.length = s → DataW.trod enc P W 0 (fun _ => true) true n e cs = some y → ∃ x, cs = f x ∧ good x) (hv : Value.okWide P W r base t v) (h : DataW.Trod enc P W 0 (fun _ => true) true t v d ps) :
    ∃ A c, ∃ l : List α, v = .slice A l.length c ∧ l.length ≤ c ∧ c ≤ maxLen ∧ RowAt W A l.length s (l.flatMap f) ∧ ∀ x ∈ l, good x := by
  obtain ⟨a0, len0, cap0, rfl⟩ := okWide_slice ht hv
  obtain ⟨fuel, hfu⟩ := h
  rcases open_slice ht hfu with ⟨h0, _⟩ | ⟨a, len, cap, m, n, D, Pl, hcs, _, hl, hm, hmm, _, hi⟩
  · have h0 : [Value.slice a0 len0 cap0] = [.slice none 0 0] := h0
    injection h0 with h0 _
    exact ⟨none, 0, [], h0, Nat.le_refl _, Nat.zero_le _, RowAt.nil _ _ _, fun _ h => by cases h⟩
  have hcs : [Value.slice a0 len0 cap0] = [.slice (some a) len cap] := hcs
  injection hcs with hcs _
  have hm2 : m = cap := by simpa using hmm
  subst hm2
  obtain ⟨l, h1, h2⟩ := exists_list (α := α) (Q := fun i x => good x ∧ ∀ j u, (f x)[j]? = some u → W.cell? (a.add (i * s + j)) = some u) len (fun i hi' => by
    obtain ⟨cs', hc, ht'⟩ := hi i (by omega)
    rw [hC] at hc
    obtain ⟨_, hcl, hat⟩ := World.cells?_some hc
    obtain ⟨x, hx, hg⟩ := hel _ _ _ hcl ht'
    refine ⟨x, hg, fun j u hu => ?_⟩
    have hj : j < s := by rw [← hf x]; exact (List.getElem?_eq_some_iff.1 hu).1
    have hcell := hat j hj
    rw [← Go.Deep.add_add, hcell, hx]
    exact hu)
  subst h1
  refine ⟨some a, m, l, hcs, hl, hm, ⟨flatMap_len hf l, fun _ => ⟨a, rfl, fun k u hk => ?_⟩⟩, fun x hx => ?_⟩
  · obtain ⟨i, j, x, hi', hj, rfl⟩ := flatMap_get hf l k u hk
    exact (h2 i x hi').2 j u hj
  obtain ⟨i, hi'⟩ := List.mem_iff_getElem?.1 hx
  exact (h2 i x hi').1
theorem struct_fields {e : TypeId} {fs : Array Field} {W : World} {base n : Nat} {sp : Nat → Bool} {held : Bool} {cs : List Value} {y : DataW H × List MemPlace} (he : P.underlying e = some (.struct fs)) (hone : oneCellFields P fs = true) (h : DataW.trod enc P W base sp held n e cs = some y) (_hC : P.cellsOf e = fs.size) (hcl : cs.length = fs.size) :
    ∀ (j : Nat) (fd : Field), fs[j]? = some fd → ∃ v y' n', cs[j]? = some v ∧ DataW.trod enc P W base sp held n' fd.type [v] = some y' := by
  obtain ⟨ys, n', hn', hy, hlen, hyl, hf⟩ := DataW.trod_struct he h
  intro j fd hj
  obtain ⟨ho, hk⟩ := hone_of hone j fd hj
  have hjl : j < fs.size := (Array.getElem?_eq_some_iff.1 hj).1
  have h1 := hf j fd hj
  rw [ho, hk] at h1
  have hone' : (cs.drop j).take 1 = [cs[j]'(by omega)] := by
    rw [List.drop_eq_getElem_cons (by omega)]
    rfl
  rw [hone'] at h1
  have hys : ys[j]? = some (ys[j]'(by omega)) := List.getElem?_eq_getElem (by omega)
  exact ⟨_, _, _, List.getElem?_eq_getElem (by omega), h1.trans hys⟩
end
end Go.Mw
namespace Go.Proofs.YtolaedhdjcnijaaGreatDoor
open Go Go.Mw Go.Lib Go.RowKit
set_option maxRecDepth 100000
theorem ownIs : ownKnob Tryz.prog.godebug = none := by kernel_rfl
theorem laidIs : laidOutB Tryz.prog = true := by kernel_rfl
def laidL : List (String × DataW Unit) := [("math/bits.deBruijn32tab", Rows.laid_math_bits_deBruijn32tab), ("math/bits.deBruijn64tab", Rows.laid_math_bits_deBruijn64tab), ("internal/strconv.uint64pow10", Rows.laid_internal_strconv_uint64pow10), ("unicode/utf8.acceptRanges", Rows.laid_unicode_utf8_acceptRanges), ("strconv.ErrRange", Rows.laid_strconv_ErrRange), ("strconv.ErrSyntax", Rows.laid_strconv_ErrSyntax), ("unicode/utf8.first", Rows.laid_unicode_utf8_first)]
theorem u8extra : U8Extra Tryz.prog Tryz.lays260_ren := ⟨by kernel_rfl, by kernel_rfl, by kernel_rfl, by kernel_rfl, by kernel_rfl, by kernel_rfl, by kernel_rfl⟩
theorem first_eq : Rows.laid_unicode_utf8_first = firstData := Pinned.utf8First_eq
theorem accept_eq : (Rows.laid_unicode_utf8_acceptRanges : DataW Unit) = acceptData := by kernel_rfl
theorem pow_eq : (Rows.laid_internal_strconv_uint64pow10 : DataW Unit) = tabData .u64 pow10Tab := by kernel_rfl
theorem star_eq : "*" ++ "errors.errorString" = "*errors.errorString" := by decide
theorem errRow (u : TypeId) (h : Tryz.prog.typeName? 3 u = some "*errors.errorString") : u = 275 :=
 typeName_ptr_named (nm := "errors.errorString") (by rw [star_eq]; kernel_rfl) (by kernel_rfl) (by decide) u (by rw [star_eq]; exact h)
theorem cellsErr : Tryz.prog.cellsOf 277 = 1 := by kernel_rfl
theorem cellsStr : Tryz.prog.cellsOf 9 = 1 := by kernel_rfl
theorem tabsX_of {W : World} (h0 : laidMetH Tryz.prog laidL W) (hsh : W.ShapedOpen Tryz.prog) : TabsX W := by
 rw [MakeChecks.laidMetH_plain _ _ _ (by kernel_rfl)] at h0
 have h := h0
 refine ⟨?_, ?_, ?_, ?_, ?_⟩
 ·exact utf8Tabs_of_reads Tryz.lays260 u8extra (first_eq ▸ Lib.laidMet.reads h (by unfold laidL; simp)) (accept_eq ▸ Lib.laidMet.reads h (by unfold laidL; simp))
 ·obtain ⟨g, t, cs, fuel, p, hg, hty, hvar, hd⟩ := Lib.laidMet.reads (n := "internal/strconv.uint64pow10") h (by unfold laidL; exact .tail _ (.tail _ (.head _)))
  have hg' : Tryz.prog.globalNamed "internal/strconv.uint64pow10" = some 1 := by kernel_rfl
  obtain rfl := Option.some.inj (hg'.symm.trans hg)
  have hty' : (Tryz.prog.globals[1]?).map (·.type) = some 253 := by kernel_rfl
  obtain rfl := Option.some.inj (hty'.symm.trans hty)
  rw [pow_eq] at hd
  have hcs := cells_of_tab Tryz.underlying253 Tryz.underlying156 (by kernel_rfl) (by kernel_rfl) hd
  unfold Lib.TabIs
  rw [hvar, ← hcs]
 ·obtain ⟨a, s, hv, _⟩ := laid_sentinel (g := 2) (ti := 127) (tp := 275) (te := 277) (ts := 9) h.tail.tail.tail.tail.tail (by kernel_rfl) (by kernel_rfl) Tryz.underlying127 errRow Tryz.underlying275 Tryz.underlying277 rfl rfl Tryz.underlying9 cellsErr cellsStr
  exact ⟨_, _, hv⟩
 ·obtain ⟨a, s, hv, _⟩ := laid_sentinel (g := 3) (ti := 127) (tp := 275) (te := 277) (ts := 9) h.tail.tail.tail.tail (by kernel_rfl) (by kernel_rfl) Tryz.underlying127 errRow Tryz.underlying275 Tryz.underlying277 rfl rfl Tryz.underlying9 cellsErr cellsStr
  exact ⟨_, _, hv⟩
 exact Tryz.laysM219.s1_3 W hsh
end Go.Proofs.YtolaedhdjcnijaaGreatDoor
namespace Go.Proofs.YtolaedhdjcnijaaGreatDoor
open Go Go.Mw Go.ChangeShapes Go.WideShapes Go.RowKit
set_option maxRecDepth 4000
section
variable {H : Type} {enc : TypeId × Value → H} {W : World} {r : Reach} {base : Nat} {v : Value} {d : DataW H} {ps : List MemPlace}
theorem fits_of {n : Int} {k : IntKind} (hk : k = .i64) (h : (Lit.int k n).wf = true) : fits n := by
 subst hk
 simp [Lit.wf, IntKind.min, IntKind.max, IntKind.bits, IntKind.signed] at h
 unfold fits
 omega
theorem str_of (s : ByteArray) : Value.string s = str s.data.toList := by
 unfold str
 congr 1
theorem cell_read {n : Nat} {cs : List Value} {y : DataW H × List MemPlace} (hl : cs.length = 3) (hc : DataW.trod enc Tryz.prog W 0 (fun _ => true) true n 47 cs = some y) : ∃ x : CellM, cs = cellCells x ∧ fits x.n := by
 have hf := struct_fields Tryz.underlying47 (by kernel_rfl) hc (by kernel_rfl) hl
 obtain ⟨v0, _, _, hv0, h0⟩ := hf 0 _ rfl
 obtain ⟨v1, _, _, hv1, h1⟩ := hf 1 _ rfl
 obtain ⟨v2, _, _, hv2, h2⟩ := hf 2 _ rfl
 obtain ⟨b, hb, _⟩ := DataW.trod_bool Tryz.underlying4 h0
 obtain ⟨m, hm, _, wm⟩ := DataW.trod_int Tryz.underlying2 h1
 obtain ⟨s, hs, _⟩ := DataW.trod_string Tryz.underlying9 h2
 injection hb with hb _
 injection hm with hm _
 injection hs with hs _
 subst hb hm hs
 match cs, hl with
 | [c0, c1, c2], _ =>
  simp at hv0 hv1 hv2
  subst hv0 hv1 hv2
  refine ⟨⟨b, m, s.data.toList⟩, ?_, fits_of rfl wm⟩
  rw [str_of]
  rfl
theorem type_read {n : Nat} {cs : List Value} {y : DataW H × List MemPlace} (hl : cs.length = 2) (hc : DataW.trod enc Tryz.prog W 0 (fun _ => true) true n 45 cs = some y) : ∃ x : TypeM, cs = typeCells x := by
 have hf := struct_fields Tryz.underlying45 (by kernel_rfl) hc (by kernel_rfl) hl
 obtain ⟨v0, _, _, hv0, h0⟩ := hf 0 _ rfl
 obtain ⟨v1, _, _, hv1, h1⟩ := hf 1 _ rfl
 obtain ⟨m, hm, _, _⟩ := DataW.trod_int Tryz.underlying3 h0
 obtain ⟨b, hb, _⟩ := DataW.trod_bool Tryz.underlying4 h1
 injection hb with hb _
 injection hm with hm _
 subst hb hm
 match cs, hl with
 | [c0, c1], _ =>
  simp at hv0 hv1
  subst hv0 hv1
  exact ⟨⟨m, b⟩, rfl⟩
theorem step_read {n : Nat} {cs : List Value} {y : DataW H × List MemPlace} (hl : cs.length = 3) (hc : DataW.trod enc Tryz.prog W 0 (fun _ => true) true n 60 cs = some y) : ∃ x : StepM, cs = stepCells x ∧ fits x.n := by
 have hf := struct_fields Tryz.underlying60 (by kernel_rfl) hc (by kernel_rfl) hl
 obtain ⟨v0, _, _, hv0, h0⟩ := hf 0 _ rfl
 obtain ⟨v1, _, _, hv1, h1⟩ := hf 1 _ rfl
 obtain ⟨v2, _, _, hv2, h2⟩ := hf 2 _ rfl
 obtain ⟨b, hb, _, _⟩ := DataW.trod_int Tryz.underlying3 h0
 obtain ⟨m, hm, _, wm⟩ := DataW.trod_int Tryz.underlying2 h1
 obtain ⟨s, hs, _⟩ := DataW.trod_string Tryz.underlying9 h2
 injection hb with hb _
 injection hm with hm _
 injection hs with hs _
 subst hb hm hs
 match cs, hl with
 | [c0, c1, c2], _ =>
  simp at hv0 hv1 hv2
  subst hv0 hv1 hv2
  refine ⟨⟨b, m, s.data.toList⟩, ?_, fits_of rfl wm⟩
  rw [str_of]
  rfl
theorem col_read {n : Nat} {cs : List Value} {y : DataW H × List MemPlace} (hl : cs.length = 7) (hc : DataW.trod enc Tryz.prog W 0 (fun _ => true) true n 49 cs = some y) : ∃ x : ColM, cs = colCells x := by
 obtain ⟨ys, n', _, _, _, hyl, hf⟩ := DataW.trod_struct Tryz.underlying49 hc
 have hy : ∀ j, j < 4 → ∃ z, ys[j]? = some z := fun j hj => ⟨_, List.getElem?_eq_getElem (by rw [hyl]; exact hj)⟩
 obtain ⟨z0, e0⟩ := hy 0 (by decide)
 obtain ⟨z1, e1⟩ := hy 1 (by decide)
 obtain ⟨z2, e2⟩ := hy 2 (by decide)
 obtain ⟨z3, e3⟩ := hy 3 (by decide)
 have h0 : DataW.trod enc Tryz.prog W 0 (fun _ => true) true n' 3 ((cs.drop 0).take (Tryz.prog.cellsOf 3)) = some z0 := (hf 0 _ rfl).trans e0
 have h1 : DataW.trod enc Tryz.prog W 0 (fun _ => true) true n' 9 ((cs.drop 1).take (Tryz.prog.cellsOf 9)) = some z1 := (hf 1 _ rfl).trans e1
 have h2 : DataW.trod enc Tryz.prog W 0 (fun _ => true) true n' 45 ((cs.drop 2).take (Tryz.prog.cellsOf 45)) = some z2 := (hf 2 _ rfl).trans e2
 have h3 : DataW.trod enc Tryz.prog W 0 (fun _ => true) true n' 47 ((cs.drop 4).take (Tryz.prog.cellsOf 47)) = some z3 := (hf 3 _ rfl).trans e3
 have c0 : Tryz.prog.cellsOf 3 = 1 := by kernel_rfl
 have c1 : Tryz.prog.cellsOf 9 = 1 := by kernel_rfl
 have c2 : Tryz.prog.cellsOf 45 = 2 := by kernel_rfl
 have c3 : Tryz.prog.cellsOf 47 = 3 := by kernel_rfl
 match cs, hl with
 | [a0, a1, a2, a3, a4, a5, a6], _ =>
  rw [c0] at h0
  rw [c1] at h1
  rw [c2] at h2
  rw [c3] at h3
  obtain ⟨i, hi, _, _⟩ := DataW.trod_int (cs := [a0]) Tryz.underlying3 h0
  obtain ⟨s, hs, _⟩ := DataW.trod_string (cs := [a1]) Tryz.underlying9 h1
  obtain ⟨t, ht⟩ := type_read (cs := [a2, a3]) rfl h2
  obtain ⟨c, hcc, _⟩ := cell_read (cs := [a4, a5, a6]) rfl h3
  refine ⟨⟨i, s.data.toList, t, c⟩, ?_⟩
  have ha : [a0, a1, a2, a3, a4, a5, a6] = [a0] ++ [a1] ++ [a2, a3] ++ [a4, a5, a6] := rfl
  rw [ha, hi, hs, ht, hcc, str_of]
  rfl
theorem rowIn_of {α : Type} {f : α → List Value} {k c : Nat} {A : Option Addr} {l : List α} (hc : l.length ≤ c) (hm : c ≤ maxLen) (h : RowAt W A l.length k (l.flatMap f)) : RowIn W (.slice A l.length c) f k l :=
 ⟨A, c, rfl, ⟨hc, by unfold maxLen at hm; omega⟩, h⟩
theorem open_cols (hv : Value.okWide Tryz.prog W r base 40 v) (h : DataW.Trod enc Tryz.prog W 0 (fun _ => true) true 40 v d ps) : ∃ l : List ColM, RowIn W v colCells 7 l := by
 obtain ⟨A, c, l, rfl, h1, h2, h3, h4⟩ := open_rows (f := colCells) (good := fun _ : ColM => True) (s := 7) Tryz.underlying40 (by kernel_rfl) (fun _ => rfl) (fun n cs y hl hc => (col_read hl hc).imp fun _ h => ⟨h, trivial⟩) hv h
 exact ⟨l, rowIn_of h1 h2 h3⟩
end
end Go.Proofs.YtolaedhdjcnijaaGreatDoor
namespace Go.Mw
open Go.RowKit Go.ChangeShapes Go.WideShapes Go.Deep

section
variable {H : Type} {enc : TypeId × Value → H} {P : Program}
theorem open_rows_in {α : Type} {f : α → List Value} {good : α → Prop} {s : Nat} {t e : TypeId} {W : World} {v : Value} {n0 : Nat} {y : DataW H × List MemPlace} (ht : P.underlying t = some (.slice e)) (hC : P.cellsOf e = s) (hf : ∀ x, (f x).length = s)
    (hel : ∀ n cs y, cs.length = s → DataW.trod enc P W 0 (fun _ => true) true n e cs = some y → ∃ x, cs = f x ∧ good x) (h : DataW.trod enc P W 0 (fun _ => true) true n0 t [v] = some y) :
    ∃ A c, ∃ l : List α, v = .slice A l.length c ∧ l.length ≤ c ∧ c ≤ maxLen ∧ RowAt W A l.length s (l.flatMap f) ∧ ∀ x ∈ l, good x := by
  rcases open_slice ht h with ⟨h0, _⟩ | ⟨a, len, cap, m, n, D, Pl, hcs, _, hl, hm, hmm, _, hi⟩
  · injection h0 with h0 _
    exact ⟨none, 0, [], h0, Nat.le_refl _, Nat.zero_le _, RowAt.nil _ _ _, fun _ h => by cases h⟩
  injection hcs with hcs _
  have hm2 : m = cap := by simpa using hmm
  subst hm2
  obtain ⟨l, h1, h2⟩ := exists_list (α := α) (Q := fun i x => good x ∧ ∀ j u, (f x)[j]? = some u → W.cell? (a.add (i * s + j)) = some u) len (fun i hi' => by
    obtain ⟨cs', hc, ht'⟩ := hi i (by omega)
    rw [hC] at hc
    obtain ⟨_, hcl, hat⟩ := World.cells?_some hc
    obtain ⟨x, hx, hg⟩ := hel _ _ _ hcl ht'
    refine ⟨x, hg, fun j u hu => ?_⟩
    have hj : j < s := by rw [← hf x]; exact (List.getElem?_eq_some_iff.1 hu).1
    have hcell := hat j hj
    rw [← Go.Deep.add_add, hcell, hx]
    exact hu)
  subst h1
  refine ⟨some a, m, l, hcs, hl, hm, ⟨flatMap_len hf l, fun _ => ⟨a, rfl, fun k u hk => ?_⟩⟩, fun x hx => ?_⟩
  · obtain ⟨i, j, x, hi', hj, rfl⟩ := flatMap_get hf l k u hk
    exact (h2 i x hi').2 j u hj
  obtain ⟨i, hi'⟩ := List.mem_iff_getElem?.1 hx
  exact (h2 i x hi').1
end
end Go.Mw
namespace Go.Proofs.YtolaedhdjcnijaaGreatDoor
open Go Go.Mw Go.ChangeShapes Go.WideShapes Go.RowKit
set_option maxRecDepth 4000
section
variable {H : Type} {enc : TypeId × Value → H} {W : World} {r : Reach} {base : Nat} {v : Value} {d : DataW H} {ps : List MemPlace}
end
section
variable {H : Type} {enc : TypeId × Value → H} {W : World} {r : Reach} {base : Nat} {v : Value} {d : DataW H} {ps : List MemPlace}
end
theorem raws_of {W : World} : ∀ r : List (List UInt8 × Value), (∀ x ∈ r, ∃ l, RowIn W x.2 stepCells 3 l ∧ StepsFit l) → ∃ cols : List OutM, RawOf W r cols ∧ ∀ o ∈ cols, StepsFit o.steps
 | [], _ => ⟨[], RawOf.nil, fun o h => absurd h List.not_mem_nil⟩
 | x :: r, h => by
  obtain ⟨l, hl, hf⟩ := h x List.mem_cons_self
  obtain ⟨cols, ⟨h1, h2⟩, hc⟩ := raws_of r fun y hy => h y (List.mem_cons_of_mem _ hy)
  refine ⟨⟨x.1, l⟩ :: cols, ⟨by rw [List.map_cons, List.map_cons, h1], fun i y o hy ho => ?_⟩, fun o ho => ?_⟩
  ·cases i with
   | zero =>
    rw [List.getElem?_cons_zero] at hy ho
    injection hy with hy
    injection ho with ho
    subst hy ho
    exact hl
   | succ i => exact h2 i y o hy ho
  rcases List.mem_cons.1 ho with e | e
  ·subst e; exact hf
  exact hc o e
section
variable {H : Type} {enc : TypeId × Value → H} {W : World} {r : Reach} {base : Nat} {v : Value} {d : DataW H} {ps : List MemPlace}
theorem steps_in {n0 : Nat} {y : DataW H × List MemPlace} (h : DataW.trod enc Tryz.prog W 0 (fun _ => true) true n0 22 [v] = some y) : ∃ l : List StepM, RowIn W v stepCells 3 l ∧ StepsFit l := by
 obtain ⟨A, c, l, rfl, h2, h3, h4, h5⟩ := open_rows_in (f := stepCells) (good := fun x : StepM => fits x.n) (s := 3) Tryz.underlying22 (by kernel_rfl) (fun _ => rfl) (fun n cs y hl hc => step_read hl hc) h
 exact ⟨l, rowIn_of h2 h3 h4, h5⟩
theorem out_read {n : Nat} {cs : List Value} {y : DataW H × List MemPlace} (hl : cs.length = 2) (hc : DataW.trod enc Tryz.prog W 0 (fun _ => true) true n 53 cs = some y) : ∃ x : List UInt8 × Value, cs = outCells x ∧ ∃ l, RowIn W x.2 stepCells 3 l ∧ StepsFit l := by
 have hf := struct_fields Tryz.underlying53 (by kernel_rfl) hc (by kernel_rfl) hl
 obtain ⟨v0, _, _, hv0, h0⟩ := hf 0 _ rfl
 obtain ⟨v1, _, _, hv1, h1⟩ := hf 1 _ rfl
 obtain ⟨s, hs, _⟩ := DataW.trod_string Tryz.underlying9 h0
 obtain ⟨l, hr, hfl⟩ := steps_in h1
 injection hs with hs _
 subst hs
 match cs, hl with
 | [c0, c1], _ =>
  simp only [List.getElem?_cons_zero, List.getElem?_cons_succ, Option.some.injEq] at hv0 hv1
  subst hv0 hv1
  exact ⟨(s.data.toList, c1), by rw [str_of s]; rfl, l, hr, hfl⟩
theorem outs_in {n0 : Nat} {y : DataW H × List MemPlace} (h : DataW.trod enc Tryz.prog W 0 (fun _ => true) true n0 23 [v] = some y) : ∃ l : List OutM, OutsIn W v l ∧ ∀ o ∈ l, StepsFit o.steps := by
 obtain ⟨A, c, q, rfl, h2, h3, h4, h5⟩ := open_rows_in (f := outCells) (good := fun x : List UInt8 × Value => ∃ l, RowIn W x.2 stepCells 3 l ∧ StepsFit l) (s := 2) Tryz.underlying23 (by kernel_rfl) (fun _ => rfl) (fun n cs y hl hc => out_read hl hc) h
 obtain ⟨cols, hr, hf⟩ := raws_of q h5
 exact ⟨cols, ⟨q, rowIn_of h2 h3 h4, hr⟩, hf⟩
theorem open_plan (hv : Value.okWide Tryz.prog W r base 25 v) (h : DataW.Trod enc Tryz.prog W 0 (fun _ => true) true 25 v d ps) : ∃ p : PlanM, PlanIn W v p ∧ AllFit p := by
 obtain ⟨cs, rfl, hsz⟩ := okWide_struct Tryz.underlying25 hv
 have hc : Tryz.prog.cellsOf 25 = 3 := by kernel_rfl
 rw [hc] at hsz
 obtain ⟨fuel, hfu⟩ := h
 obtain ⟨l⟩ := cs
 match l, hsz with
 | [a, b, c], _ =>
  have hf := struct_fields Tryz.underlying25 (by kernel_rfl) hfu (by kernel_rfl) rfl
  obtain ⟨v0, _, _, hv0, h0⟩ := hf 0 _ rfl
  obtain ⟨v1, _, _, hv1, h1⟩ := hf 1 _ rfl
  obtain ⟨v2, _, _, hv2, h2⟩ := hf 2 _ rfl
  have e0 : some a = some v0 := hv0
  have e1 : some b = some v1 := hv1
  have e2 : some c = some v2 := hv2
  injection e0 with e0
  injection e1 with e1
  injection e2 with e2
  subst e0 e1 e2
  obtain ⟨wh, hw, hwf⟩ := steps_in h0
  obtain ⟨cols, ho, hof⟩ := outs_in h1
  obtain ⟨g, hg, _, _⟩ := DataW.trod_int Tryz.underlying3 h2
  injection hg with hg _
  subst hg
  exact ⟨⟨wh, cols, g⟩, ⟨a, b, rfl, hw, ho⟩, hwf, hof⟩
end
end Go.Proofs.YtolaedhdjcnijaaGreatDoor
namespace Go.Proofs.YtolaedhdjcnijaaGreatDoor
open Go
def facts1 (P : Program) (f : FuncId) (fn : Func) (s : ChangeSpec) (c : OpenClaim) : Bool :=
 c.wf (OpenSpec.ofChange s) && laidOutB P && mapsRowed P &&
 fn.params.all (P.readableRec ·) && namedTie P c.named s.vars &&
 (c.stops == []) && (P.stops == []) && (c.knobs == []) && (P.stopKnobs == []) &&
 (c.inPlace == P.inPlace f) && (c.unfollowed == P.unfollowed f) && (c.recurses == P.recurses f) && (c.named == P.varsNamed f)
def facts2 (P : Program) (fn : Func) (s : ChangeSpec) (c : OpenClaim) : Bool :=
 (c.maps == (fn.params.toList ++ s.plain.varTypes P).any (P.mapsRec ·)) && (c.ifaces == (fn.params.toList ++ s.plain.varTypes P).any (P.ifacesRec ·)) && (c.mapsOut == P.mapsAmong fn.resultTypes.toList) &&
 (c.loops == (fn.params.toList ++ s.plain.varTypes P).any (P.loopsFrom ·)) && (c.wideKeys == (fn.params.toList ++ s.plain.varTypes P ++ fn.resultTypes.toList).any (P.wideKeysFrom ·)) &&
 s.vars.all (P.varReadable ·) && fn.resultTypes.all (fun t => P.readableRec t && decide (t < P.types.size)) && (c.ifacesOut == fn.resultTypes.toList.any (P.ifacesRec ·)) && (c.loopsOut == fn.resultTypes.toList.any (P.loopsFrom ·)) && (c.plainKeys == P.plainKeys) && c.shortTexts.isNone
def facts3 (P : Program) (fn : Func) (s : ChangeSpec) (c : OpenClaim) : Bool :=
 P.stopsHeard && P.mayEnter && (c.lifted == P.liftsFinal) && (P.make == some c.make) && (c.kinds == (if c.domain.isEmpty then [] else fn.params.toList.map fun t => match P.underlying t with | some (.int k) => some k | _ => none)) && (c.pinned == c.pinnedBy) &&
 (c.veiled == (fn.params.toList ++ s.plain.varTypes P ++ fn.resultTypes.toList).any (P.veiledRec ·)) && c.veiledFits P fn.params.toList (fn.params.toList ++ s.plain.varTypes P ++ fn.resultTypes.toList)
theorem joined_of {P : Program} {f : FuncId} {fn : Func} {s : ChangeSpec} {c : OpenClaim} (h1 : facts1 P f fn s c = true) (h2 : facts2 P fn s c = true) (h3 : facts3 P fn s c = true) : joinedFacts P f fn s c = true := by
 simp only [facts1, Bool.and_eq_true] at h1
 simp only [facts2, Bool.and_eq_true] at h2
 simp only [facts3, Bool.and_eq_true] at h3
 simp only [joinedFacts, Bool.and_eq_true]
 simp only [h1, h2, h3, and_self, and_true, true_and]
 exact h3.1.1.1.2
end Go.Proofs.YtolaedhdjcnijaaGreatDoor
