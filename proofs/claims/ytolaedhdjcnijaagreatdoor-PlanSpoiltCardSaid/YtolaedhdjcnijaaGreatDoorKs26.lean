/-
 The law PlanSpoilt, walked.
-/
import Derived.Test.YtolaedhdjcnijaaGreatDoorKs25
import Derived.Test.YtolaedhdjcnijaaGreatDoorKs18
import Derived.Test.YtolaedhdjcnijaaGreatDoorKs6
import Derived.ProofKit
import Derived.Carry
import Derived.ChangeSame
import Derived.Deep.Slices
import Derived.Deep.Fields
import Derived.Test.YtolaedhdjcnijaaGreatDoorKs14
import Derived.Test.YtolaedhdjcnijaaGreatDoorRows
import Derived.PinnedBridge
import Derived.Lib.LaidU8
import Derived.Stop.LaidErr
import Derived.Deep.DeepHandedRow
import Derived.Lay
import Derived.MakeChecks
import Derived.Test.YtolaedhdjcnijaaGreatDoorKs12
import Derived.ChangeMaps5
import Derived.Test.YtolaedhdjcnijaaGreatDoorKs20
import Derived.OpenShut
import Derived.Test.YtolaedhdjcnijaaGreatDoorKs24
import Derived.JoinedOf
set_option linter.unusedVariables false
set_option linter.unusedSimpArgs false
namespace Go.Mw
open Go.RowKit
section
variable {P : Program} {r : Option Nat} {n : Nat} {ops : Array Oper} {Q : Post} {σ : St} {w w₀ : World} {S : Nat → Prop} {rs : List HP} {put : HP → List HP} {ty : TypeId} {pos : String} {after : Array Edge} {guard : Option (Nat × Bool)} {lv : List Bool} {pd : List (Nat × Bool)} {α : Type} {enc : α → List Value} {k e c : Nat} {l : List α} {A : Option Addr}
theorem FGstoreD (hok : okOps n ops = true) (o : Nat) (pd' : List (Nat × Bool)) {x y : Operand} {T : TypeId} [h1 : OneCell P T] [hk : EncK enc k] {i f : Nat} {a : α} (a' : α) {v : Value} {m : Nat} (hm : m = l.length) (H : Sep w₀ S rs w) (hat : At rs (rowD e k enc (.slice A m c) l) put) (hi : l[i]? = some a) (hf : f < k) (he : enc a' = (enc a).set f v) (hv : v.oneCell' = true)
    (ho : ops[o]? = some { dst := none, op := .store T x y, type := ty, pos := pos, after := after, guard := guard } := by exact rfl)
    (hw : Region.wanted { dst := none, op := .store T x y, type := ty, pos := pos, after := after, guard := guard } (yieldF ops σ) = true := by kernel_rfl) (hx : evF σ x = adr A (i * k + f) := by exact rfl) (hy : evF σ y = v := by exact rfl)
    (hck : effectOk ops lv (pd.map (·.1)) o = true := by kernel_rfl) (hpd : pd.filter (fun p => !((above ops o).contains p.1)) = pd' := by kernel_rfl)
    (h : ∀ w', Sep w₀ S (put (rowD e k enc (.slice A m c) (l.set i a'))) w' → Stab P ops σ w' pd' ∧ FG P r n ops Q (lv.set o true) pd' σ w') : FG P r n ops Q lv pd σ w :=
  FGact hok o pd' ho hw (acts_storeD a' hm H hat hi hf he hx hy hv) hck hpd h
end
end Go.Mw
namespace Go.Proofs.YtolaedhdjcnijaaGreatDoor
open Go Go.Mw Go.Lib
set_option maxRecDepth 4000
theorem RawOf.set {w : World} {r : List (List UInt8 × Value)} {l : List OutM} (h : RawOf w r l) (k : Nat) (n : List UInt8) {x : Value} {s : List StepM} (hx : RowIn w x stepCells 3 s) : RawOf w (r.set k (n, x)) (l.set k ⟨n, s⟩) := by
 refine ⟨by rw [List.map_set, List.map_set, h.1], fun i y o hy ho => ?_⟩
 rw [List.getElem?_set] at hy ho
 by_cases hki : k = i
 ·rw [if_pos hki] at hy ho
  split at hy
  ·injection hy with hy
   split at ho
   ·injection ho with ho
    subst hy ho
    exact hx
   cases ho
  cases hy
 rw [if_neg hki] at hy ho
 exact h.2 i y o hy ho
section
variable {w₀ w : World} {S : Nat → Prop} {rs : List HP} {x : Value} {s : List StepM} {r : List (List UInt8 × Value)} {l : List OutM}
theorem Sep_rawSet (k : Nat) (n : List UInt8) (H : Mw.Sep w₀ S (seeH x stepCells 3 s :: rawsH r l :: rs) w) : Mw.Sep w₀ S (rawsH (r.set k (n, x)) (l.set k ⟨n, s⟩) :: rs) w :=
 Sep.look2 H fun _ hx hr => hr.set k n hx
theorem Sep_rawName (k : Nat) (n : List UInt8) {o : OutM} (ho : l[k]? = some o) {m : List UInt8} (hr : r[k]? = some (m, x)) (H : Mw.Sep w₀ S (rawsH r l :: rs) w) : Mw.Sep w₀ S (rawsH (r.set k (n, x)) (l.set k ⟨n, o.steps⟩) :: rs) w :=
 Sep.lookMap H At0 fun _ h => h.set k n (h.2 k _ _ hr ho)
theorem Sep_rawPushO {o : OutM} {n : List UInt8} {k : Nat} (ho : l[k]? = some o) (hr : r[k]? = some (n, x)) (hn : n = o.name) (H : Mw.Sep w₀ S (rawsH r l :: rs) w) : Mw.Sep w₀ S (rawsH (r ++ [(n, x)]) (l ++ [o]) :: rs) w :=
 Sep.lookMap H At0 fun _ h => by subst hn; exact h.push (h.2 k _ _ hr ho)
end
theorem ahead_next {cols : List OutM} {i : Nat} {c : OutM} (h : cols[i]? = some c) : (aheadOne cols i)[i]? = some c ∧ (aheadOne cols i).set i ⟨c.name, exprP 0 true⟩ = aheadOne cols (i + 1) := by
 have hlt := (List.getElem?_eq_some_iff.1 h).1
 have hd := outs_snoc h
 have hl : ((cols.take i).map (fun o => (⟨o.name, exprP 0 true⟩ : OutM))).length = i := by rw [List.length_map, List.length_take]; omega
 unfold aheadOne
 constructor
 ·rw [List.getElem?_append_right (by omega), hl, Nat.sub_self, hd]; rfl
 rw [List.set_append_right _ _ (by omega), hl, Nat.sub_self, hd, List.set_cons_zero, List.take_add_one, h, List.map_append]
 simp
theorem spoilt_fit (l : List (Int × Int)) (what at' : Int) : StepsFit (spoiltP l what at').wh ∧ (∀ o ∈ (spoiltP l what at').cols, StepsFit o.steps) ∧ (spoiltP l what at').cols.length ≤ 17 := by
 obtain ⟨hw, hc⟩ := made_fit 0 l 0
 have hlen := madeP_len 0 l 0
 have hp := pairs_len l
 have h0 : StepsFit ([] : List StepM) := fun x hx => absurd hx List.not_mem_nil
 have hE : ∀ n b, StepsFit (exprP n b) := fun n b => (good_parts (exprP_good n b).1).2.1
 obtain ⟨cols, hcols⟩ : ∃ cols, cols = (madeP 0 l 0).cols := ⟨_, rfl⟩
 rw [← hcols] at hc hlen
 have hk : (at' % (cols.length : Nat)).toNat < cols.length := by
  have h1 := Int.emod_lt_of_pos at' (show (0 : Int) < (cols.length : Nat) by omega)
  have h2 := Int.emod_nonneg at' (show ((cols.length : Nat) : Int) ≠ 0 by omega)
  omega
 have hg := (getD_get (d := out0) hk).1
 have hset : ∀ (n : List UInt8) (s : List StepM), StepsFit s → ∀ o ∈ cols.set (at' % (cols.length : Nat)).toNat ⟨n, s⟩, StepsFit o.steps := fun n s hs o ho => by
  rcases List.mem_or_eq_of_mem_set ho with h | h
  ·exact hc o h
  subst h; exact hs
 unfold spoiltP
 dsimp only
 rw [← hcols]
 split
 ·exact ⟨h0, hset _ _ (hc _ hg), by unfold renamed; rw [List.length_set]; omega⟩
 split
 ·refine ⟨h0, fun o ho => ?_, by rw [List.length_append, List.length_singleton]; omega⟩
  rcases List.mem_append.1 ho with h | h
  ·exact hc o h
  rw [List.mem_singleton.1 h]; exact hc _ hg
 split
 ·exact ⟨h0, fun o ho => absurd ho List.not_mem_nil, by decide⟩
 split
 ·exact ⟨h0, hc, by show cols.length ≤ 17; omega⟩
 split
 ·exact ⟨h0, hset _ _ (hc _ hg), by unfold renamed; rw [List.length_set]; omega⟩
 split
 ·refine ⟨h0, fun o ho => ?_, ?_⟩
  ·unfold aheadOne at ho
   rcases List.mem_append.1 ho with h | h
   ·obtain ⟨y, _, rfl⟩ := List.mem_map.1 h
    exact hE 0 true
   exact hset _ _ (hE 7 false) o (List.mem_of_mem_drop h)
  show (aheadOne _ _).length ≤ 17
  unfold aheadOne restepped
  simp only [List.length_append, List.length_map, List.length_take, List.length_drop, List.length_set]
  omega
 split
 ·exact ⟨hE _ _, hc, by show cols.length ≤ 17; omega⟩
 split
 ·exact ⟨h0, hset _ _ h0, by unfold restepped; rw [List.length_set]; omega⟩
 refine ⟨fun x hx => ?_, hc, by show cols.length ≤ 17; omega⟩
 rw [List.mem_singleton.1 hx]
 show fits 2
 unfold fits
 omega
theorem oneCell_row {α : Type} {w : World} {v : Value} {enc : α → List Value} {k : Nat} {l : List α} (h : RowIn w v enc k l) : v.oneCell' = true := by
 obtain ⟨A, c, rfl, _⟩ := h
 rfl
section
variable {w : World}
theorem planSpoilt_ok {l : List (Int × Int)} {vl : Value} {what at' : Int} (hl : RowIn w vl pairCells 2 l) (hT : TabsX w) : Rets Tryz.prog 7 [vl, I what, I at'] w fun v w' => v = .bool true ∧ Kept noB w w' := by
 have H := Sep.start0 w
 obtain ⟨cols, hcols⟩ : ∃ cols, cols = (madeP 0 l 0).cols := ⟨_, rfl⟩
 have hm0 : madeP 0 l 0 = ⟨[], cols, -1⟩ := by rw [hcols]; exact made0 l
 have hlen := madeP_len 0 l 0
 have hp16 := pairs_len l
 obtain ⟨q, hq⟩ : ∃ q, q = spoiltP l what at' := ⟨_, rfl⟩
 obtain ⟨hqw, hqc, hql⟩ := spoilt_fit l what at'
 have hno := spoilt_no l what at'
 rw [← hq] at hqw hqc hql hno
 have hmo := made_ok (w := w) (wh := 0) hl (show fits 0 from by unfold fits; omega) hT
 rw [hm0] at hmo hlen
 dsimp only at hmo hlen
 unfold spoiltP at hq
 dsimp only at hq
 rw [hm0] at hq
 dsimp only at hq
 obtain ⟨er, her⟩ : ∃ er : Int, er = if what % 9 < 7 then 230 else 220 := ⟨_, rfl⟩
 rw [← her] at hno
 refine rets3 Tryz.func7 rfl rfl rfl rfl ?_
 refine Sr (Am ?_)
 refine Nx (Mv ?_)
 refine FL_callN H hmo (h := fun x w4 _ H4 k3 => ?_)
 obtain ⟨vw, vc, r⟩ := x
 dsimp only at H4 ⊢
 have H4 : Mw.Sep w noB [seeH vw stepCells 3 [], rowD 53 2 outCells vc r, rawsH r cols] w4 := Sep.parts (l := [_, _, _]) H4
 obtain ⟨B, m, rfl, hrm, _⟩ := Sep.formD H4 At1
 obtain ⟨V, cv, rfl, _⟩ := (show RowIn w4 vw stepCells 3 [] from Sep.sees H4 At0)
 have hraw : RawOf w4 r cols := Sep.sees H4 At2
 have hrl := hraw.len
 refine FL_alloc H4 (h := fun b7 w6 H6 k5 => ?_)
 refine FL_storeAll H6 (h := fun w8 H8 => ?_)
 refine Nx (Mv ?_)
 refine Vf ?_
 refine Ld H8 ?_
 refine Vs ?_
 refine FL_callQ H8 (bring_ok (k := at') (m := (r.length : Nat)) (by omega) (by omega)) (h := fun w14 H14 k13 => ?_)
 obtain ⟨k, hk⟩ : ∃ k : Nat, at' % ((r.length : Nat) : Int) = k := ⟨(at' % ((r.length : Nat) : Int)).toNat, by have h2 := Int.emod_nonneg at' (show ((r.length : Nat) : Int) ≠ 0 by omega); omega⟩
 have hkr : k < r.length := by have h1 := Int.emod_lt_of_pos at' (show (0 : Int) < (r.length : Nat) by omega); omega
 rw [hk]
 have hkn : (at' % (cols.length : Nat)).toNat = k := by rw [← hrl, hk]; rfl
 obtain ⟨o, ho⟩ := get_some (l := cols) (i := k) (by omega)
 have hod : cols.getD k out0 = o := getD_of ho
 rw [hkn, hod] at hq
 unfold renamed restepped at hq
 rw [hod] at hq
 obtain ⟨vx, hx, hsx⟩ := hraw.at (show k < cols.length by omega)
 rw [(List.getElem?_eq_some_iff.1 ho).2] at hx hsx
 refine Am ?_
 refine Nx (Am ?_)
 refine Qn (FW_cut (fun z : Value × Value => [(7, selfP b7), (9, I er)]) (fun z w' => Sep w noB [blk b7 [z.1, z.2, I q.group] 25, planH (agg [z.1, z.2, I q.group]) q] w') ?_ ?_)
 ·refine Sr (Mv ?_)
  refine FL_callQ H14 (bring_ok (k := what) (m := 9) (by decide) (by decide)) (h := fun w20 H20 k19 => ?_)
  refine Qn (FW_block (Sr (Ve ?_)))
  refine Am ?_
  refine Qn (Cp rfl (fun hc23 => ?_) (fun hc23 => ?_))
  ·rw [if_pos hc23] at hq
   refine FW_drawS rfl H20 (h := fun hok25 w27 H27 => ?_)
   refine Gp hok25 0 rfl rfl (fun _ => (Gives.field0 rfl)) (FGload hok25 1 H27 (h := ?_))
   refine Gm hok25 2 ?_
   refine Gm hok25 4 ?_
   refine FG_two hok25 (e1 := 3) (e2 := 5) (by kernel_rfl) ?_ ?_
   ·refine step_buildSlice hok25 3 [(4, true), (2, true), (1, false), (0, true)] H27 (xs := [_, _, _, _]) (out := badNames.flatMap textCells) (Elems.one rfl rfl (Elems.one rfl rfl (Elems.one rfl rfl (Elems.one rfl rfl Elems.nil)))) (h := fun bn w31 H31 => ⟨Stab_pure (Stab_pure (Stab_load H31 (h := Stab_pure (Stab_nil)))), ?_⟩)
    refine FGcallQ hok25 5 [(2, true), (1, false), (0, true)] H31 (bring_ok (k := at') (m := 4) (by decide) (by decide)) (h := fun w33 H33 k32 => ?_)
    obtain ⟨j, hj⟩ : ∃ j : Nat, at' % 4 = j := ⟨(at' % 4).toNat, by omega⟩
    have hj4 : j < badNames.length := by show j < 4; omega
    obtain ⟨bnm, hbn⟩ := get_some hj4
    rw [hj, Int.toNat_natCast, getD_of hbn] at hq
    rw [hj]
    refine ⟨Stab_pure (Stab_load H33 (h := Stab_pure (Stab_nil))), ?_⟩
    refine Gp hok25 6 rfl rfl (fun _ => (Gives.idxR (l := badNames) (enc := textCells) rfl rfl (show Rd _ (some ⟨bn, 0, none⟩) textCells 1 badNames from Sep.blkRow H33 At0 rfl) hj4)) (Gl hok25 7 rfl rfl (Gives.loadW (f := 0) rfl (show Rd _ (some ⟨bn, 0, none⟩) textCells 1 badNames from Sep.blkRow H33 At0 rfl) hbn rfl) ?_)
    refine Gp hok25 8 rfl rfl (fun _ => (Gives.idxR (l := r) (enc := outCells) rfl rfl (by first | exact Sep_rdD H33 At2 | exact Sep_rdD H33 At3) hkr)) ?_
    refine Gp hok25 9 rfl rfl (fun _ => (Gives.fieldR rfl (by first | exact Sep_rdD H33 At2 | exact Sep_rdD H33 At3) (by omega))) ?_
    refine FGstoreD hok25 10 [] (bnm, vx) rfl H33 At3 (i := k) (f := 0) hx (by decide) rfl rfl (h := fun w39 H39 => ⟨Stab_nil, ?_⟩)
    refine FG_end hok25 (by kernel_rfl) ?_
    refine Qblk_normal ?_
    subst hq
    exact Qcut_normal (.slice V ([] : List StepM).length cv, .slice B r.length m) ⟨rfl, by rw [her, if_pos (by omega)]; rfl, trivial⟩ (Sep_plan ((Sep_rawName k bnm ho hx H39.drop0.front3).front3).front3).front1
   refine step_callQ hok25 5 [(2, true), (1, false), (0, true)] H27 (bring_ok (k := at') (m := 4) (by decide) (by decide)) (h := fun w42 H42 k41 => ?_)
   obtain ⟨j, hj⟩ : ∃ j : Nat, at' % 4 = j := ⟨(at' % 4).toNat, by omega⟩
   have hj4 : j < badNames.length := by show j < 4; omega
   obtain ⟨bnm, hbn⟩ := get_some hj4
   rw [hj, Int.toNat_natCast, getD_of hbn] at hq
   rw [hj]
   refine ⟨Stab_pure (Stab_load H42 (h := Stab_pure (Stab_nil))), ?_⟩
   refine FGbuildSlice hok25 3 [(2, true), (1, false), (0, true)] H42 (xs := [_, _, _, _]) (out := badNames.flatMap textCells) (Elems.one rfl rfl (Elems.one rfl rfl (Elems.one rfl rfl (Elems.one rfl rfl Elems.nil)))) (h := fun bn w44 H44 => ⟨Stab_pure (Stab_load H44 (h := Stab_pure (Stab_nil))), ?_⟩)
   refine Gp hok25 6 rfl rfl (fun _ => (Gives.idxR (l := badNames) (enc := textCells) rfl rfl (show Rd _ (some ⟨bn, 0, none⟩) textCells 1 badNames from Sep.blkRow H44 At0 rfl) hj4)) (Gl hok25 7 rfl rfl (Gives.loadW (f := 0) rfl (show Rd _ (some ⟨bn, 0, none⟩) textCells 1 badNames from Sep.blkRow H44 At0 rfl) hbn rfl) ?_)
   refine Gp hok25 8 rfl rfl (fun _ => (Gives.idxR (l := r) (enc := outCells) rfl rfl (by first | exact Sep_rdD H44 At2 | exact Sep_rdD H44 At3) hkr)) ?_
   refine Gp hok25 9 rfl rfl (fun _ => (Gives.fieldR rfl (by first | exact Sep_rdD H44 At2 | exact Sep_rdD H44 At3) (by omega))) ?_
   refine FGstoreD hok25 10 [] (bnm, vx) rfl H44 At3 (i := k) (f := 0) hx (by decide) rfl rfl (h := fun w50 H50 => ⟨Stab_nil, ?_⟩)
   refine FG_end hok25 (by kernel_rfl) ?_
   refine Qblk_normal ?_
   subst hq
   exact Qcut_normal (.slice V ([] : List StepM).length cv, .slice B r.length m) ⟨rfl, by rw [her, if_pos (by omega)]; rfl, trivial⟩ (Sep_plan ((Sep_rawName k bnm ho hx H50.drop0.front3).front3).front3).front1
  rw [if_neg hc23] at hq
  refine Sr (Ve ?_)
  refine Am ?_
  refine Qn (Cp rfl (fun hc55 => ?_) (fun hc55 => ?_))
  ·rw [if_pos hc55] at hq
   refine FW_drawS rfl H20 (h := fun hok57 w59 H59 => ?_)
   refine Gp hok57 0 rfl rfl (fun _ => (Gives.field0 rfl)) (FGload hok57 1 H59 (h := ?_))
   refine Gp hok57 2 rfl rfl (fun _ => (Gives.field0 rfl)) (FGload hok57 3 H59 (h := ?_))
   refine Gm hok57 4 ?_
   refine Gp hok57 5 rfl rfl (fun _ => (Gives.idxR (l := r) (enc := outCells) rfl rfl (Sep_rdD H59 At2) hkr)) (Gl hok57 6 rfl rfl (Gives.loadW0 (i := k) rfl (Sep_rdD H59 At2) hx) ?_)
   refine FGbuildSlice hok57 7 [(1, false), (0, true)] H59 (xs := [.tmp 45]) (out := [(o.name, vx)].flatMap outCells) (Elems.many rfl rfl Elems.nil) (h := fun bs w67 H67 => ⟨Stab_load H67 (h := Stab_pure (Stab_nil)), ?_⟩)
   refine FGappendD hok57 8 [] H67 (news := [(o.name, vx)]) At2 (by unfold maxLen; simp; omega) (by simp; omega) (outs_one (oneCell_row hsx)) (h := fun v2 w69 H69 => ?_)
   obtain ⟨A2, c2, rfl, hc2, hA2⟩ := Sep.formD H69 At2
   refine ⟨Stab_nil, ?_⟩
   refine Gp hok57 9 rfl rfl (fun _ => (Gives.field0 rfl)) (FGstore hok57 10 [] H69 (h := fun w72 H72 => ⟨Stab_nil, ?_⟩))
   refine FG_end hok57 (by kernel_rfl) ?_
   refine Qblk_normal ?_
   subst hq
   exact Qcut_normal (.slice V ([] : List StepM).length cv, .slice A2 (r ++ [(o.name, vx)]).length c2) ⟨rfl, by rw [her, if_pos (by omega)]; rfl, trivial⟩ (Sep_plan ((Sep_rawPushO ho hx rfl H72.front3).front3).front3).front1
  rw [if_neg hc55] at hq
  refine Sr (Ve ?_)
  refine Am ?_
  refine Qn (Cp rfl (fun hc77 => ?_) (fun hc77 => ?_))
  ·rw [if_pos hc77] at hq
   refine FW_region (Vf ?_)
   refine FL_store H20 (h := fun w81 H81 => ?_)
   refine FL_nil (Qblk_normal ?_)
   subst hq
   exact Qcut_normal (.slice V ([] : List StepM).length cv, .slice none 0 0) ⟨rfl, by rw [her, if_pos (by omega)]; rfl, trivial⟩ (Sep.firsts (l := [_, _]) (Sep_plan ((Sep_rawNil (Sep.nilD H81.front1 53 2 outCells)).front1.front2)).front1)
  rw [if_neg hc77] at hq
  refine Sr (Ve ?_)
  refine Am ?_
  refine Qn (Cp rfl (fun hc86 => ?_) (fun hc86 => ?_))
  ·rw [if_pos hc86] at hq
   refine FW_drawS rfl H20 (h := fun hok88 w90 H90 => ?_)
   refine Gp hok88 0 rfl rfl (fun _ => (Gives.field0 rfl)) (FGload hok88 1 H90 (h := ?_))
   refine Gp hok88 2 rfl rfl (fun _ => (Gives.lenSlice rfl)) (Gp hok88 3 rfl rfl (fun _ => (Gives.addI (c := ((cols.length + 1 : Nat) : Int)) rfl rfl (by omega) (by omega))) ?_)
   refine Gm hok88 5 ?_
   refine FG_two hok88 (e1 := 4) (e2 := 6) (by kernel_rfl) ?_ ?_
   ·refine step_buildSlice hok88 4 [(5, true)] H90 (xs := [_, .tmp 57, _, _]) (out := (badGroup cols.length).flatMap intCells) (Elems.one rfl rfl (Elems.one rfl rfl (Elems.one rfl rfl (Elems.one rfl rfl Elems.nil)))) (h := fun bn w96 H96 => ⟨Stab_pure (Stab_nil), ?_⟩)
    refine FGcallQ hok88 6 [] H96 (bring_ok (k := at') (m := 4) (by decide) (by decide)) (h := fun w98 H98 k97 => ?_)
    obtain ⟨j, hj⟩ : ∃ j : Nat, at' % 4 = j := ⟨(at' % 4).toNat, by omega⟩
    have hj4 : j < (badGroup cols.length).length := by show j < 4; omega
    obtain ⟨gg, hgg⟩ := get_some hj4
    rw [hj, Int.toNat_natCast, getD_of hgg] at hq
    rw [hj]
    refine ⟨Stab_nil, ?_⟩
    refine Gp hok88 7 rfl rfl (fun _ => (Gives.idxR (l := badGroup cols.length) (enc := intCells) rfl rfl (show Rd _ (some ⟨bn, 0, none⟩) intCells 1 (badGroup cols.length) from Sep.blkRow H98 At0 rfl) hj4)) (Gl hok88 8 rfl rfl (Gives.loadW (f := 0) rfl (show Rd _ (some ⟨bn, 0, none⟩) intCells 1 (badGroup cols.length) from Sep.blkRow H98 At0 rfl) hgg rfl) ?_)
    refine Gp hok88 9 rfl rfl (fun _ => (Gives.field0 rfl)) (FGstore hok88 10 [] H98 (h := fun w103 H103 => ⟨Stab_nil, ?_⟩))
    refine FG_end hok88 (by kernel_rfl) ?_
    refine Qblk_normal ?_
    subst hq
    exact Qcut_normal (.slice V ([] : List StepM).length cv, .slice B r.length m) ⟨rfl, by rw [her, if_pos (by omega)]; rfl, trivial⟩ (Sep_plan ((H103.drop0.front3).front3).front3).front1
   refine step_callQ hok88 6 [(3, true), (2, true), (1, false), (0, true)] H90 (bring_ok (k := at') (m := 4) (by decide) (by decide)) (h := fun w106 H106 k105 => ?_)
   obtain ⟨j, hj⟩ : ∃ j : Nat, at' % 4 = j := ⟨(at' % 4).toNat, by omega⟩
   have hj4 : j < (badGroup cols.length).length := by show j < 4; omega
   obtain ⟨gg, hgg⟩ := get_some hj4
   rw [hj, Int.toNat_natCast, getD_of hgg] at hq
   rw [hj]
   refine ⟨Stab_pure (Stab_pure (Stab_load H106 (h := Stab_pure (Stab_nil)))), ?_⟩
   refine FGbuildSlice hok88 4 [] H106 (xs := [_, .tmp 57, _, _]) (out := (badGroup cols.length).flatMap intCells) (Elems.one rfl rfl (Elems.one rfl rfl (Elems.one rfl rfl (Elems.one rfl rfl Elems.nil)))) (h := fun bn w108 H108 => ⟨Stab_nil, ?_⟩)
   refine Gp hok88 7 rfl rfl (fun _ => (Gives.idxR (l := badGroup cols.length) (enc := intCells) rfl rfl (show Rd _ (some ⟨bn, 0, none⟩) intCells 1 (badGroup cols.length) from Sep.blkRow H108 At0 rfl) hj4)) (Gl hok88 8 rfl rfl (Gives.loadW (f := 0) rfl (show Rd _ (some ⟨bn, 0, none⟩) intCells 1 (badGroup cols.length) from Sep.blkRow H108 At0 rfl) hgg rfl) ?_)
   refine Gp hok88 9 rfl rfl (fun _ => (Gives.field0 rfl)) (FGstore hok88 10 [] H108 (h := fun w113 H113 => ⟨Stab_nil, ?_⟩))
   refine FG_end hok88 (by kernel_rfl) ?_
   refine Qblk_normal ?_
   subst hq
   exact Qcut_normal (.slice V ([] : List StepM).length cv, .slice B r.length m) ⟨rfl, by rw [her, if_pos (by omega)]; rfl, trivial⟩ (Sep_plan ((H113.drop0.front3).front3).front3).front1
  rw [if_neg hc86] at hq
  refine Sr (Ve ?_)
  refine Am ?_
  refine Qn (Cp rfl (fun hc118 => ?_) (fun hc118 => ?_))
  ·rw [if_pos hc118] at hq
   refine Sr (Vf ?_)
   refine Ld H20 ?_
   refine Vs ?_
   refine Vf ?_
   refine FL_store H20 (h := fun w125 H125 => ?_)
   refine Qn (FW_region (Vf ?_))
   refine Ld H125 ?_
   refine Mv ?_
   refine Vv (Gives.idxR (l := r) (enc := outCells) rfl rfl (Sep_rdD H125 At2) hkr) (Vv (Gives.fieldR rfl (Sep_rdD H125 At2) (by omega)) ?_)
   refine FL_storeD (i := k) (f := 0) (a := (o.name, vx)) (countW, vx) rfl H125 At2 hx (by decide) rfl rfl rfl rfl (h := fun w132 H132 => ?_)
   refine FL_nil (Qblk_normal ?_)
   subst hq
   exact Qcut_normal (.slice V ([] : List StepM).length cv, .slice B r.length m) ⟨rfl, by rw [her, if_pos (by omega)]; rfl, trivial⟩ (by
    rw [← hrl]
    exact (Sep_plan ((Sep_rawName k countW ho hx H132.front3).front3).front3).front1)
  rw [if_neg hc118] at hq
  refine Sr (Ve ?_)
  refine Am ?_
  refine Qn (Cp rfl (fun hc137 => ?_) (fun hc137 => ?_))
  ·rw [if_pos hc137] at hq
   refine Sr (Mv ?_)
   refine Vf ?_
   refine FL_store H20 (h := fun w142 H142 => ?_)
   refine Qn (FW_seq (FW_drawS rfl H142 (h := fun hok143 w145 H145 => ?_)))
   refine Gp hok143 0 rfl rfl (fun _ => (Gives.field0 rfl)) (FGload hok143 1 H145 (h := ?_))
   refine Gm hok143 2 ?_
   refine FGcallN hok143 3 [(2, true), (1, false), (0, true)] H145 (expressionP_ok 7 false (hT.keep H145.kept)) (h := fun vs w149 _ H149 k148 => ?_)
   obtain ⟨es, hes⟩ : ∃ es, es = exprP 7 false := ⟨_, rfl⟩
   rw [← hes] at H149 hq
   obtain ⟨Ax, cx, rfl, _, _⟩ := Sep.formD H149 At0
   refine ⟨Stab_pure (Stab_load H149 (h := Stab_pure (Stab_nil))), ?_⟩
   refine Gp hok143 4 rfl rfl (fun _ => (Gives.idxR (l := r) (enc := outCells) rfl rfl (by first | exact Sep_rdD H149 At2 | exact Sep_rdD H149 At3) hkr)) ?_
   refine Gp hok143 5 rfl rfl (fun _ => (Gives.fieldR rfl (by first | exact Sep_rdD H149 At2 | exact Sep_rdD H149 At3) (by omega))) ?_
   refine FGstoreD hok143 6 [] (o.name, .slice Ax es.length cx) rfl H149 At3 (i := k) (f := 1) hx (by decide) rfl rfl (h := fun w153 H153 => ⟨Stab_nil, ?_⟩)
   refine FG_end hok143 (by kernel_rfl) ?_
   refine Qseq_normal (Sr (Am ?_))
   refine Qn (FW_block ?_)
   have H156 := Sep_rawSet k o.name (Sep_seeRow H153 At0).front4.front1
   obtain ⟨cols2, hcols2⟩ : ∃ cols2, cols2 = cols.set k ⟨o.name, es⟩ := ⟨_, rfl⟩
   obtain ⟨r2, hr2⟩ : ∃ r2, r2 = r.set k (o.name, .slice Ax es.length cx) := ⟨_, rfl⟩
   have hr2l : r2.length = r.length := by rw [hr2, List.length_set]
   have hc2l : cols2.length = cols.length := by rw [hcols2, List.length_set]
   rw [← hcols2, ← hr2] at H156
   rw [← hcols2] at hq
   refine FW_loop' (fun x : Nat × List (List UInt8 × Value) => [(7, selfP b7), (8, I k), (9, I 230), (10, I x.1)]) (fun x w' => (x.1 ≤ k ∧ x.2.length = r.length) ∧ Sep w noB [rawsH x.2 (aheadOne cols2 x.1), blk b7 [.slice V ([] : List StepM).length cv, .slice B r.length m, I k] 25, seeH (.slice V ([] : List StepM).length cv) stepCells 3 [], rowD 53 2 outCells (.slice B r.length m) x.2] w') (fun x _ => k - x.1) (0, r2) ⟨rfl, rfl, rfl, rfl, trivial⟩ ⟨⟨Nat.zero_le _, hr2l⟩, by
    show Mw.Sep w noB [rawsH r2 (aheadOne cols2 0), _, _, _] _
    rw [show aheadOne cols2 0 = cols2 from rfl]
    exact H156⟩ (fun x τ w156 hI => ?_)
   obtain ⟨i, ri⟩ := x
   obtain ⟨⟨hi, hril⟩, H156⟩ := hI
   dsimp only at hi hril H156
   try simp only [upds, like, upd_ds, und_ds]
   refine FW_seq (Sr (Mv ?_))
   refine Mv ?_
   refine Vl ?_
   refine Qn (Cp rfl (fun hc160 => ?_) (fun hc160 => ?_))
   ·have hlt : i < k := by omega
    obtain ⟨c, hc⟩ := get_some (l := cols2) (i := i) (by omega)
    obtain ⟨hai, han⟩ := ahead_next hc
    obtain ⟨vi, hxi, _⟩ := (show RawOf _ ri (aheadOne cols2 i) from Sep.sees H156 At0).at (List.getElem?_eq_some_iff.1 hai).1
    rw [(List.getElem?_eq_some_iff.1 hai).2] at hxi
    refine Sk (FW_seq (FW_block (FW_drawS rfl H156 (h := fun hok162 w164 H164 => ?_))))
    refine Gp hok162 0 rfl rfl (fun _ => (Gives.field0 rfl)) (FGload hok162 1 H164 (h := ?_))
    refine Gm hok162 2 ?_
    refine FGcallN hok162 3 [(2, true), (1, false), (0, true)] H164 (expressionP_ok 0 true (hT.keep H164.kept)) (h := fun vs w168 _ H168 k167 => ?_)
    obtain ⟨e0, he0⟩ : ∃ e0, e0 = exprP 0 true := ⟨_, rfl⟩
    rw [← he0] at H168 han
    obtain ⟨Ay, cy, rfl, _, _⟩ := Sep.formD H168 At0
    refine ⟨Stab_pure (Stab_load H168 (h := Stab_pure (Stab_nil))), ?_⟩
    refine Gp hok162 4 rfl rfl (fun _ => (Gives.idxN (l := ri) (enc := outCells) hril.symm rfl rfl (by first | exact Sep_rdN hril.symm H168 At3 | exact Sep_rdN hril.symm H168 At4) (by omega))) ?_
    refine Gp hok162 5 rfl rfl (fun _ => (Gives.fieldR rfl (by first | exact Sep_rdN hril.symm H168 At3 | exact Sep_rdN hril.symm H168 At4) (by omega))) ?_
    refine FGstoreD hok162 6 [] (c.name, .slice Ay e0.length cy) hril.symm H168 At4 (i := i) (f := 1) hxi (by decide) rfl rfl (h := fun w172 H172 => ⟨Stab_nil, ?_⟩)
    refine FG_end hok162 (by kernel_rfl) ?_
    refine Qblk_normal (Qseq_normal (FW_region (Mv ?_)))
    refine Vv (Gives.addI rfl rfl rfl (by omega)) (Am ?_)
    refine FL_nil ?_
    exact Qround_normal (i + 1, ri.set i (c.name, .slice Ay e0.length cy)) ⟨rfl, rfl, rfl, rfl, trivial⟩ ⟨⟨by dsimp only; omega, by dsimp only; rw [List.length_set, hril]⟩, by
    dsimp only
    rw [← han]
    exact Sep_rawSet i c.name (Sep_seeRow H172 At0)⟩ (by dsimp only; omega)
   have hik : i = k := by omega
   subst hik
   refine FW_exit (Qseq_exit (Qround_exit (Qblk_exit (Qblk_normal ?_))))
   subst hq
   exact Qcut_normal (.slice V ([] : List StepM).length cv, .slice B r.length m) ⟨rfl, by rw [her, if_pos (by omega)]; rfl, trivial⟩ (Sep_plan (H156.front3.front3)).front1
  rw [if_neg hc137] at hq
  refine Sr (Ve ?_)
  refine Am ?_
  refine Qn (Cp rfl (fun hc182 => ?_) (fun hc182 => ?_))
  ·rw [if_pos hc182] at hq
   refine FW_region (Mv ?_)
   refine FL_callQ H20 (bring_ok (k := at') (m := 6) (by decide) (by decide)) (h := fun w186 H186 k185 => ?_)
   refine FL_callN H186 (expressionP_ok (at' % 6) true (hT.keep H186.kept)) (h := fun vs w188 _ H188 k187 => ?_)
   obtain ⟨Ax, cx, rfl, _, _⟩ := Sep.formD H188 At0
   refine Vf ?_
   refine FL_store H188 (h := fun w191 H191 => ?_)
   refine FL_nil (Qblk_normal ?_)
   subst hq
   exact Qcut_normal (.slice Ax (exprP (at' % 6) true).length cx, .slice B r.length m) ⟨rfl, by rw [her, if_pos (by omega)]; rfl, trivial⟩ (Sep_plan ((Sep_seeRow H191 At0).front2.drop0.front3.front3.front2)).front1
  rw [if_neg hc182] at hq
  refine Sr (Ve ?_)
  refine Am ?_
  refine Qn (Cp rfl (fun hc196 => ?_) (fun hc196 => ?_))
  ·rw [if_pos hc196] at hq
   refine Sr (Vf ?_)
   refine Ld H20 ?_
   refine Mv ?_
   refine Vv (Gives.idxR (l := r) (enc := outCells) rfl rfl (Sep_rdD H20 At2) hkr) (Vv (Gives.fieldR rfl (Sep_rdD H20 At2) (by omega)) ?_)
   refine FL_storeD (i := k) (f := 1) (a := (o.name, vx)) (o.name, .slice none 0 0) rfl H20 At2 hx (by decide) rfl rfl rfl rfl (h := fun w204 H204 => ?_)
   refine Qn (FW_region (Am ?_))
   refine FL_nil (Qblk_normal ?_)
   subst hq
   exact Qcut_normal (.slice V ([] : List StepM).length cv, .slice B r.length m) ⟨rfl, by rw [her, if_neg (by omega)]; rfl, trivial⟩ (Sep_plan ((Sep_rawSet k o.name (Sep.lookNew H204.front3 (X := fun w => RowIn w (.slice none 0 0) stepCells 3 []) fun _ => rowIn_none)).front3).front3).front1
  rw [if_neg hc196] at hq
  refine Sr (Vv (Gives.build (out := stepCells ⟨1, 2, []⟩) (Fills.one rfl rfl rfl (by simp) rfl (Fills.one rfl rfl rfl (by simp) rfl Fills.nil))) (FL_buildSlice H20 (xs := [.tmp 22]) (out := [(⟨1, 2, []⟩ : StepM)].flatMap stepCells) (Elems.many rfl rfl Elems.nil) rfl rfl rfl (fun bs w210 H210 k209 => ?_)))
  have H210 : Mw.Sep w noB (rowD 60 3 stepCells (.slice (some ⟨bs, 0, none⟩) 1 1) [(⟨1, 2, []⟩ : StepM)] :: _) w210 := Sep.asRow H210 At0 (n := 1) rfl (by decide)
  refine Vf ?_
  refine FL_store H210 (h := fun w213 H213 => ?_)
  refine Qn (FW_region (Am ?_))
  refine FL_nil (Qblk_normal ?_)
  subst hq
  exact Qcut_normal (.slice (some ⟨bs, 0, none⟩) 1 1, .slice B r.length m) ⟨rfl, by rw [her, if_neg (by omega)]; rfl, trivial⟩ (Sep_plan ((Sep_seeRow H213 At0).front2.drop0.front3.front3.front2)).front1
 rintro ⟨vw', vc'⟩ τ w217 H217
 dsimp only at H217
 simp only [upds, like, upd_ds, und_ds]
 refine FW_seq (FW_drawS rfl H217 (h := fun hok218 w220 H220 => ?_))
 refine FGloadAll hok218 1 H220 (h := ?_)
 refine FGcallN hok218 0 [(1, false)] H220 (columnsP_ok false) (h := fun vc w223 _ H223 k222 => ⟨(Stab_cons rfl (by kernel_rfl) (Gives.loadN rfl (H223.obj At1) (us := [vw', vc', I q.group]) rfl rfl) rfl (Stab_nil)), ?_⟩)
 refine FGcallN hok218 2 [] H223 (checkE_ok (cols := colsP false) (p := q) (Sep_in H223 At0) (Sep.sees H223 At2) hqw hqc (by omega) (hT.keep H223.kept)) (h := fun vo w225 _ H225 k224 => ?_)
 rw [hno] at H225 ⊢
 dsimp only at H225 ⊢
 obtain ⟨Ao, co, rfl, _, _⟩ := Sep.formD H225 At0
 refine ⟨Stab_nil, ?_⟩
 refine Gm hok218 3 ?_
 refine Gp hok218 4 rfl rfl (fun _ => (Gives.extract rfl rfl)) (Gp hok218 5 rfl rfl (fun _ => (Gives.extract rfl rfl)) ?_)
 refine Gp hok218 6 rfl rfl (fun _ => Gives.assign rfl) (Gp hok218 7 rfl rfl (fun _ => Gives.assign rfl) ?_)
 refine FG_end hok218 (by kernel_rfl) ?_
 refine Qseq_normal (Sr (Mv ?_))
 refine Mv ?_
 refine Ve ?_
 refine Mv ?_
 refine FL_splitP (t := 118) rfl (fun hs234 => ?_) (fun hs234 => ?_)
 ·refine On (Mv ?_)
  refine On (Vs ?_)
  refine On (Ve ?_)
  refine Pt ?_
  refine Mv ?_
  refine FL_splitP (t := 123) rfl (fun hs240 => ?_) (fun hs240 => ?_)
  ·refine On (FL_callQ H225 (worksP_ok (hT.keep H225.kept)) (h := fun w242 H242 k241 => ?_))
   refine Pt ?_
   refine Am ?_
   refine Qn (FW_ret (Qfn_ret (hR := ?_)))
   exact ⟨rfl, H242.kept⟩
  exact absurd rfl hs240
 exact (hs234 trivial).elim
end
end Go.Proofs.YtolaedhdjcnijaaGreatDoor
namespace Go.Mw
open Go.RowKit Go.ChangeShapes Go.WideShapes Go.Deep

section
variable {H : Type} {enc : TypeId × Value → H} {P : Program}
theorem trodAll_stays (hl : laidOutB P = true) {W W' : World} (hk : Kept noB W W') {sp : Nat → Bool} : ∀ {ts : List TypeId} {vs : List Value} {ds : List (DataW H)} {ps : List MemPlace}, (∀ t ∈ ts, P.readableRec t = true ∧ t < P.types.size) →
    DataW.TrodAll enc P W 0 (fun _ => true) true ts vs ds ps → (∀ x ∈ ps, x.block < W.heap.size) → (∀ x ∈ ps, sp x.block = true) → DataW.TrodAll enc P W' 0 sp true ts vs ds ps
  | [], [], [], _, _, h, _, _ => h
  | t :: ts, v :: vs, d :: ds, ps, ht, ⟨p, q, h1, h2, e⟩, hlt, hsp => by
    subst e
    exact ⟨p, q, WideElems.Trod_stays hl (ht t List.mem_cons_self).1 (ht t List.mem_cons_self).2 h1 (fun x hx => hk.below.same (hlt x (List.mem_append_left _ hx))) (fun x hx => hsp x (List.mem_append_left _ hx)),
      trodAll_stays hl hk (fun u hu => ht u (List.mem_cons_of_mem _ hu)) h2 (fun x hx => hlt x (List.mem_append_right _ hx)) (fun x hx => hsp x (List.mem_append_right _ hx)), rfl⟩
  | [], [], _ :: _, _, _, h, _, _ => h.elim
  | [], _ :: _, _, _, _, h, _, _ => by cases ‹List (DataW H)› <;> exact h.elim
  | _ :: _, [], _, _, _, h, _, _ => h.elim
  | _ :: _, _ :: _, [], _, _, h, _, _ => h.elim
theorem post_law {f : Func} {s : ChangeSpec} {apart fresh handsOn again : Bool} {W W' : World} {args : Array Value} {t : TypeId} {ds gs : List (DataW H)} {before : List MemPlace} (hl : laidOutB P = true)
    (hW : DataW.Whole enc P f.params.toList s.vars apart W args.toList ds gs before) (hvars : s.vars = []) (hr : f.resultTypes = #[t]) (hb : P.underlying t = some .bool) (hp0 : (f.params.toList.all fun t => P.readableRec t && decide (t < P.types.size)) = true)
    (hs : s.fn H (ds ++ gs) = { results := [.lit (.bool true)], args := ds }) (hk : Kept noB W W') (hok : Value.okWide P W' .any 0 t (.bool true)) : s.post enc P f apart fresh handsOn again W args (.bool true) W' := by
  have hp : ∀ t ∈ f.params.toList, P.readableRec t = true ∧ t < P.types.size := fun t ht => by
    have := List.all_eq_true.1 hp0 t ht
    simpa using this
  have hW' := hW
  obtain ⟨pa, pv, hA, hV, rfl, hz, hn⟩ := hW
  have hnil : gs = [] ∧ pv = [] := by
    rw [hvars] at hV
    exact trodVars_none hV
  obtain ⟨rfl, rfl⟩ := hnil
  have hlt : ∀ p ∈ pa, p.block < W.heap.size := fun p hp => hW'.lt p (List.mem_append_left _ hp)
  have hres : ∀ (b : Nat) (sp : Nat → Bool) (hd : Bool), DataW.TrodAll enc P W' b sp hd f.resultTypes.toList ((Value.bool true).resultList f.resultTypes.size) (s.fn H (ds ++ [])).results [] := by
    intro b sp hd
    rw [hs, hr]
    exact trodAll_mk1 (shut_bool hb true)
  have hargs : ∀ sp : Nat → Bool, (∀ p ∈ pa, sp p.block = true) → DataW.TrodAll enc P W' 0 sp true f.params.toList args.toList (s.fn H (ds ++ [])).args pa := by
    intro sp hsp
    rw [hs]
    exact trodAll_stays hl hk hp hA hlt hsp
  have hvs : ∀ sp : Nat → Bool, DataW.TrodVars enc P W' sp s.vars (s.fn H (ds ++ [])).vars [] := by
    intro sp
    rw [hvars, hs]
    exact rfl
  refine ⟨ds, [], pa ++ [], [], pa, [], hW', hres _ _ _, hargs _ (fun p hp => by simpa using hlt p hp), hvs _, World.keptBut_mono (fun p hp => ⟨hp, ?_⟩) (hk.below.frame (· ∈ pa ++ [])), fun _ => ?_⟩
  · simpa using hp
  refine ⟨fun j t' r hj hv => ?_, _, _, ([] ++ pa) ++ [], ⟨[] ++ pa, [], trodAll_append (hargs _ (fun _ _ => rfl)) (hres _ _ _), hvs _, rfl, ?_, ?_⟩, ?_⟩
  · exact ok_one hr rfl hok j t' r hj hv
  · intro b off hp
    have hin : MemPlace.cell b off ∈ pa := by simpa using hp
    rw [hk.below.frozen (hlt _ hin)]
    exact hz b off (by simpa using hin)
  · intro ha
    have := hn ha
    simpa using this
  intro p hp _
  simpa using hp
theorem exists_list {α : Type} {Q : Nat → α → Prop} : ∀ n : Nat, (∀ i, i < n → ∃ x, Q i x) → ∃ l : List α, l.length = n ∧ ∀ i x, l[i]? = some x → Q i x
 | 0, _ => ⟨[], rfl, fun i x h => by simp at h⟩
 | n + 1, h => by
  obtain ⟨l, h1, h2⟩ := exists_list n fun i hi => h i (by omega)
  obtain ⟨x, hx⟩ := h n (by omega)
  refine ⟨l ++ [x], by simp [h1], fun i y hy => ?_⟩
  rw [List.getElem?_append] at hy
  split at hy
  ·exact h2 i y hy
  rename_i hge
  have hi : i = n := by
   rcases Nat.lt_or_ge (i - l.length) 1 with h3 | h3
   ·omega
   rw [List.getElem?_eq_none (by simpa using h3)] at hy; cases hy
  subst hi
  rw [h1, Nat.sub_self] at hy
  injection hy with hy
  rw [← hy]; exact hx
theorem flatMap_get {α : Type} {f : α → List Value} {s : Nat} (hf : ∀ x, (f x).length = s) : ∀ (l : List α) (k : Nat) (v : Value), (l.flatMap f)[k]? = some v → ∃ i j x, l[i]? = some x ∧ (f x)[j]? = some v ∧ k = i * s + j
 | [], k, v, h => by simp at h
 | x :: l, k, v, h => by
  rw [List.flatMap_cons, List.getElem?_append] at h
  split at h
  ·exact ⟨0, k, x, rfl, h, by omega⟩
  rename_i hge
  obtain ⟨i, j, y, h1, h2, h3⟩ := flatMap_get hf l _ v h
  rw [hf] at h3 hge
  exact ⟨i + 1, j, y, by simpa using h1, h2, by rw [Nat.add_mul]; omega⟩
theorem flatMap_len {α : Type} {f : α → List Value} {s : Nat} (hf : ∀ x, (f x).length = s) : ∀ l : List α, (l.flatMap f).length = l.length * s
 | [] => by simp
 | x :: l => by rw [List.flatMap_cons, List.length_append, hf, flatMap_len hf l, List.length_cons, Nat.add_mul]; omega
theorem open_rows {α : Type} {f : α → List Value} {good : α → Prop} {s : Nat} {t e : TypeId} {W : World} {r : Reach} {base : Nat} {v : Value} {d : DataW H} {ps : List MemPlace} (ht : P.underlying t = some (.slice e)) (hC : P.cellsOf e = s) (hf : ∀ x, (f x).length = s)
    (hel : ∀ n cs y, cs.length = s → DataW.trod enc P W 0 (fun _ => true) true n e cs = some y → ∃ x, cs = f x ∧ good x) (hv : Value.okWide P W r base t v) (h : DataW.Trod enc P W 0 (fun _ => true) true t v d ps) :
    ∃ A c, ∃ l : List α, v = .slice A l.length c ∧ l.length ≤ c ∧ c ≤ maxLen ∧ RowAt W A l.length s (l.flatMap f) ∧ ∀ x ∈ l, good x := by
  obtain ⟨a0, len0, cap0, rfl⟩ := okWide_slice ht hv
  obtain ⟨fuel, hfu⟩ := h
  rcases open_slice ht hfu with ⟨h0, _⟩ | ⟨a, len, cap, m, n, D, Pl, hcs, _, hl, hm, hmm, _, hi⟩
  · have h0 : [Value.slice a0 len0 cap0] = [.slice none 0 0] := h0
    injection h0 with h0 _
    exact ⟨none, 0, [], h0, Nat.le_refl _, Nat.zero_le _, RowAt.nil _ _ _, fun _ h => by cases h⟩
  have hcs : [Value.slice a0 len0 cap0] = [.slice (some a) len cap] := hcs
  injection hcs with hcs _
  have hm2 : m = cap := by simpa using hmm
  subst hm2
  obtain ⟨l, h1, h2⟩ := exists_list (α := α) (Q := fun i x => good x ∧ ∀ j u, (f x)[j]? = some u → W.cell? (a.add (i * s + j)) = some u) len (fun i hi' => by
    obtain ⟨cs', hc, ht'⟩ := hi i (by omega)
    rw [hC] at hc
    obtain ⟨_, hcl, hat⟩ := World.cells?_some hc
    obtain ⟨x, hx, hg⟩ := hel _ _ _ hcl ht'
    refine ⟨x, hg, fun j u hu => ?_⟩
    have hj : j < s := by rw [← hf x]; exact (List.getElem?_eq_some_iff.1 hu).1
    have hcell := hat j hj
    rw [← Go.Deep.add_add, hcell, hx]
    exact hu)
  subst h1
  refine ⟨some a, m, l, hcs, hl, hm, ⟨flatMap_len hf l, fun _ => ⟨a, rfl, fun k u hk => ?_⟩⟩, fun x hx => ?_⟩
  · obtain ⟨i, j, x, hi', hj, rfl⟩ := flatMap_get hf l k u hk
    exact (h2 i x hi').2 j u hj
  obtain ⟨i, hi'⟩ := List.mem_iff_getElem?.1 hx
  exact (h2 i x hi').1
end
end Go.Mw
namespace Go.Proofs.YtolaedhdjcnijaaGreatDoor
open Go Go.Mw Go.Lib Go.RowKit
set_option maxRecDepth 100000
theorem ownIs : ownKnob Tryz.prog.godebug = none := by kernel_rfl
theorem laidIs : laidOutB Tryz.prog = true := by kernel_rfl
def laidL : List (String × DataW Unit) := [("math/bits.deBruijn32tab", Rows.laid_math_bits_deBruijn32tab), ("math/bits.deBruijn64tab", Rows.laid_math_bits_deBruijn64tab), ("internal/strconv.uint64pow10", Rows.laid_internal_strconv_uint64pow10), ("unicode/utf8.acceptRanges", Rows.laid_unicode_utf8_acceptRanges), ("strconv.ErrRange", Rows.laid_strconv_ErrRange), ("strconv.ErrSyntax", Rows.laid_strconv_ErrSyntax), ("unicode/utf8.first", Rows.laid_unicode_utf8_first)]
theorem u8extra : U8Extra Tryz.prog Tryz.lays260_ren := ⟨by kernel_rfl, by kernel_rfl, by kernel_rfl, by kernel_rfl, by kernel_rfl, by kernel_rfl, by kernel_rfl⟩
theorem first_eq : Rows.laid_unicode_utf8_first = firstData := Pinned.utf8First_eq
theorem accept_eq : (Rows.laid_unicode_utf8_acceptRanges : DataW Unit) = acceptData := by kernel_rfl
theorem pow_eq : (Rows.laid_internal_strconv_uint64pow10 : DataW Unit) = tabData .u64 pow10Tab := by kernel_rfl
theorem star_eq : "*" ++ "errors.errorString" = "*errors.errorString" := by decide
theorem errRow (u : TypeId) (h : Tryz.prog.typeName? 3 u = some "*errors.errorString") : u = 275 :=
 typeName_ptr_named (nm := "errors.errorString") (by rw [star_eq]; kernel_rfl) (by kernel_rfl) (by decide) u (by rw [star_eq]; exact h)
theorem cellsErr : Tryz.prog.cellsOf 277 = 1 := by kernel_rfl
theorem cellsStr : Tryz.prog.cellsOf 9 = 1 := by kernel_rfl
theorem tabsX_of {W : World} (h0 : laidMetH Tryz.prog laidL W) (hsh : W.ShapedOpen Tryz.prog) : TabsX W := by
 rw [MakeChecks.laidMetH_plain _ _ _ (by kernel_rfl)] at h0
 have h := h0
 refine ⟨?_, ?_, ?_, ?_, ?_⟩
 ·exact utf8Tabs_of_reads Tryz.lays260 u8extra (first_eq ▸ Lib.laidMet.reads h (by unfold laidL; simp)) (accept_eq ▸ Lib.laidMet.reads h (by unfold laidL; simp))
 ·obtain ⟨g, t, cs, fuel, p, hg, hty, hvar, hd⟩ := Lib.laidMet.reads (n := "internal/strconv.uint64pow10") h (by unfold laidL; exact .tail _ (.tail _ (.head _)))
  have hg' : Tryz.prog.globalNamed "internal/strconv.uint64pow10" = some 1 := by kernel_rfl
  obtain rfl := Option.some.inj (hg'.symm.trans hg)
  have hty' : (Tryz.prog.globals[1]?).map (·.type) = some 253 := by kernel_rfl
  obtain rfl := Option.some.inj (hty'.symm.trans hty)
  rw [pow_eq] at hd
  have hcs := cells_of_tab Tryz.underlying253 Tryz.underlying156 (by kernel_rfl) (by kernel_rfl) hd
  unfold Lib.TabIs
  rw [hvar, ← hcs]
 ·obtain ⟨a, s, hv, _⟩ := laid_sentinel (g := 2) (ti := 127) (tp := 275) (te := 277) (ts := 9) h.tail.tail.tail.tail.tail (by kernel_rfl) (by kernel_rfl) Tryz.underlying127 errRow Tryz.underlying275 Tryz.underlying277 rfl rfl Tryz.underlying9 cellsErr cellsStr
  exact ⟨_, _, hv⟩
 ·obtain ⟨a, s, hv, _⟩ := laid_sentinel (g := 3) (ti := 127) (tp := 275) (te := 277) (ts := 9) h.tail.tail.tail.tail (by kernel_rfl) (by kernel_rfl) Tryz.underlying127 errRow Tryz.underlying275 Tryz.underlying277 rfl rfl Tryz.underlying9 cellsErr cellsStr
  exact ⟨_, _, hv⟩
 exact Tryz.laysM219.s1_3 W hsh
end Go.Proofs.YtolaedhdjcnijaaGreatDoor
namespace Go.Proofs.YtolaedhdjcnijaaGreatDoor
open Go Go.Mw Go.ChangeShapes Go.WideShapes Go.RowKit
set_option maxRecDepth 4000
section
variable {H : Type} {enc : TypeId × Value → H} {W : World} {r : Reach} {base : Nat} {v : Value} {d : DataW H} {ps : List MemPlace}
theorem fits_of {n : Int} {k : IntKind} (hk : k = .i64) (h : (Lit.int k n).wf = true) : fits n := by
 subst hk
 simp [Lit.wf, IntKind.min, IntKind.max, IntKind.bits, IntKind.signed] at h
 unfold fits
 omega
theorem rowIn_of {α : Type} {f : α → List Value} {k c : Nat} {A : Option Addr} {l : List α} (hc : l.length ≤ c) (hm : c ≤ maxLen) (h : RowAt W A l.length k (l.flatMap f)) : RowIn W (.slice A l.length c) f k l :=
 ⟨A, c, rfl, ⟨hc, by unfold maxLen at hm; omega⟩, h⟩
end
end Go.Proofs.YtolaedhdjcnijaaGreatDoor
namespace Go.Mw
open Go.RowKit Go.ChangeShapes Go.WideShapes Go.Deep

section
variable {H : Type} {enc : TypeId × Value → H} {P : Program}
end
end Go.Mw
namespace Go.Proofs.YtolaedhdjcnijaaGreatDoor
open Go Go.Mw Go.ChangeShapes Go.WideShapes Go.RowKit
set_option maxRecDepth 4000
section
variable {H : Type} {enc : TypeId × Value → H} {W : World} {r : Reach} {base : Nat} {v : Value} {d : DataW H} {ps : List MemPlace}
theorem open_intX (hv : Value.okWide Tryz.prog W r base 3 v) (h : DataW.Trod enc Tryz.prog W 0 (fun _ => true) true 3 v d ps) : ∃ k, v = I k ∧ fits k := by
 obtain ⟨k0, rfl⟩ := okWide_int Tryz.underlying3 hv
 obtain ⟨fuel, hfu⟩ := h
 obtain ⟨k, hk, _, hw⟩ := DataW.trod_int Tryz.underlying3 hfu
 have hk : [Value.int .i64 k0] = [Value.int .i64 k] := hk
 injection hk with hk _
 injection hk with _ hk
 subst hk
 exact ⟨_, rfl, fits_of rfl hw⟩
end
section
variable {H : Type} {enc : TypeId × Value → H} {W : World} {r : Reach} {base : Nat} {v : Value} {d : DataW H} {ps : List MemPlace}
theorem pair_read {n : Nat} {cs : List Value} {y : DataW H × List MemPlace} (hl : cs.length = 2) (hc : DataW.trod enc Tryz.prog W 0 (fun _ => true) true n 95 cs = some y) : ∃ x : Int × Int, cs = pairCells x := by
 have hc1 : Tryz.prog.cellsOf 3 = 1 := by kernel_rfl
 match cs, hl with
 | [a, b], _ =>
  obtain ⟨xs, m, _, _, _, hxl, hx⟩ := DataW.trod_array Tryz.underlying95 hc
  have h0 := hx 0 (by decide)
  have h1 := hx 1 (by decide)
  rw [hc1] at h0 h1
  have g0 : xs[0]? = some (xs[0]'(by omega)) := List.getElem?_eq_getElem _
  have g1 : xs[1]? = some (xs[1]'(by omega)) := List.getElem?_eq_getElem _
  obtain ⟨i, hi, _, _⟩ := DataW.trod_int (cs := [a]) Tryz.underlying3 (h0.trans g0)
  obtain ⟨j, hj, _, _⟩ := DataW.trod_int (cs := [b]) Tryz.underlying3 (h1.trans g1)
  injection hi with hi _
  injection hj with hj _
  subst hi hj
  exact ⟨(i, j), rfl⟩
theorem open_pairs (hv : Value.okWide Tryz.prog W r base 35 v) (h : DataW.Trod enc Tryz.prog W 0 (fun _ => true) true 35 v d ps) : ∃ l : List (Int × Int), RowIn W v pairCells 2 l := by
 obtain ⟨A, c, l, rfl, h1, h2, h3, h4⟩ := open_rows (f := pairCells) (good := fun _ : Int × Int => True) (s := 2) Tryz.underlying35 (by kernel_rfl) (fun _ => rfl) (fun n cs y hl hc => (pair_read hl hc).imp fun _ h => ⟨h, trivial⟩) hv h
 exact ⟨l, rowIn_of h1 h2 h3⟩
end
end Go.Proofs.YtolaedhdjcnijaaGreatDoor
namespace Go.Proofs.YtolaedhdjcnijaaGreatDoor
open Go
def facts1 (P : Program) (f : FuncId) (fn : Func) (s : ChangeSpec) (c : OpenClaim) : Bool :=
 c.wf (OpenSpec.ofChange s) && laidOutB P && mapsRowed P &&
 fn.params.all (P.readableRec ·) && namedTie P c.named s.vars &&
 (c.stops == []) && (P.stops == []) && (c.knobs == []) && (P.stopKnobs == []) &&
 (c.inPlace == P.inPlace f) && (c.unfollowed == P.unfollowed f) && (c.recurses == P.recurses f) && (c.named == P.varsNamed f)
def facts2 (P : Program) (fn : Func) (s : ChangeSpec) (c : OpenClaim) : Bool :=
 (c.maps == (fn.params.toList ++ s.plain.varTypes P).any (P.mapsRec ·)) && (c.ifaces == (fn.params.toList ++ s.plain.varTypes P).any (P.ifacesRec ·)) && (c.mapsOut == P.mapsAmong fn.resultTypes.toList) &&
 (c.loops == (fn.params.toList ++ s.plain.varTypes P).any (P.loopsFrom ·)) && (c.wideKeys == (fn.params.toList ++ s.plain.varTypes P ++ fn.resultTypes.toList).any (P.wideKeysFrom ·)) &&
 s.vars.all (P.varReadable ·) && fn.resultTypes.all (fun t => P.readableRec t && decide (t < P.types.size)) && (c.ifacesOut == fn.resultTypes.toList.any (P.ifacesRec ·)) && (c.loopsOut == fn.resultTypes.toList.any (P.loopsFrom ·)) && (c.plainKeys == P.plainKeys) && c.shortTexts.isNone
def facts3 (P : Program) (fn : Func) (s : ChangeSpec) (c : OpenClaim) : Bool :=
 P.stopsHeard && P.mayEnter && (c.lifted == P.liftsFinal) && (P.make == some c.make) && (c.kinds == (if c.domain.isEmpty then [] else fn.params.toList.map fun t => match P.underlying t with | some (.int k) => some k | _ => none)) && (c.pinned == c.pinnedBy) &&
 (c.veiled == (fn.params.toList ++ s.plain.varTypes P ++ fn.resultTypes.toList).any (P.veiledRec ·)) && c.veiledFits P fn.params.toList (fn.params.toList ++ s.plain.varTypes P ++ fn.resultTypes.toList)
theorem joined_of {P : Program} {f : FuncId} {fn : Func} {s : ChangeSpec} {c : OpenClaim} (h1 : facts1 P f fn s c = true) (h2 : facts2 P fn s c = true) (h3 : facts3 P fn s c = true) : joinedFacts P f fn s c = true := by
 simp only [facts1, Bool.and_eq_true] at h1
 simp only [facts2, Bool.and_eq_true] at h2
 simp only [facts3, Bool.and_eq_true] at h3
 simp only [joinedFacts, Bool.and_eq_true]
 simp only [h1, h2, h3, and_self, and_true, true_and]
 exact h3.1.1.1.2
end Go.Proofs.YtolaedhdjcnijaaGreatDoor
