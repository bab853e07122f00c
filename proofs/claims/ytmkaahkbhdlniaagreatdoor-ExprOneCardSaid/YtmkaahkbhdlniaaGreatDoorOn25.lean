/-
 The law ExprOne, walked.
-/
import Derived.Test.YtmkaahkbhdlniaaGreatDoorOn24
import Derived.Test.YtmkaahkbhdlniaaGreatDoorOn6
import Derived.ProofKit
import Derived.Carry
import Derived.ChangeSame
import Derived.Deep.Slices
import Derived.Deep.Fields
import Derived.Test.YtmkaahkbhdlniaaGreatDoorOn17
import Derived.Test.YtmkaahkbhdlniaaGreatDoorRows
import Derived.PinnedBridge
import Derived.Lib.LaidU8
import Derived.Stop.LaidErr
import Derived.Deep.DeepHandedRow
import Derived.Lay
import Derived.MakeChecks
import Derived.Test.YtmkaahkbhdlniaaGreatDoorOn16
import Derived.ChangeMaps5
import Derived.Test.YtmkaahkbhdlniaaGreatDoorOn23
import Derived.OpenShut
import Derived.JoinedOf
set_option linter.unusedVariables false
set_option linter.unusedSimpArgs false
namespace Go.Proofs.YtmkaahkbhdlniaaGreatDoor
open Go Go.Mw Go.Lib
set_option maxRecDepth 4000
/-- The step that takes one of a kind. -/
def oneStep (k : Int) : Int := if k = 1 then 15 else if k = 3 then 10 else 18
def oneNums : List Int := [0, 15, 0, 10, 18, 18]
/-- What it makes of a cell. -/
def oneCell (k : Int) (x : CellM) : CellM := if x.null = true then x else if k = 1 then ⟨false, 1 - x.n, []⟩ else if k ≠ 3 then ⟨false, x.s.length, []⟩ else ⟨false, -x.n, []⟩
theorem oneStep_may {k : Int} (h : kind4 k) : mayS ⟨oneStep k, 0, []⟩ = true ∧ takesS (oneStep k) = 1 ∧ oneNums[k.toNat]? = some (oneStep k) ∧ ∀ n1, ∃ t, madeT (oneStep k) ⟨k, n1⟩ ⟨k, n1⟩ = some t := by
 rcases h with rfl | rfl | rfl | rfl
 ·exact ⟨rfl, rfl, rfl, fun n1 => let ⟨n, h⟩ := made_not n1; ⟨_, h⟩⟩
 ·exact ⟨rfl, rfl, rfl, fun n1 => let ⟨n, h⟩ := made_neg n1; ⟨_, h⟩⟩
 ·exact ⟨rfl, rfl, rfl, fun n1 => let ⟨n, h⟩ := made_len (.inl rfl) n1; ⟨_, h⟩⟩
 ·exact ⟨rfl, rfl, rfl, fun n1 => let ⟨n, h⟩ := made_len (.inr rfl) n1; ⟨_, h⟩⟩
theorem one_made {k : Int} {n : Bool} {x : CellM} (h : kind4 k) (hx : okC ⟨k, n⟩ x) : madeC (oneStep k) x x = if x.null = false ∧ k = 3 ∧ fitsI (-x.n) = false then none else some (oneCell k x) := by
 rcases h with rfl | rfl | rfl | rfl
 ·rcases bool_cases hx rfl with ⟨rfl, _⟩ | rfl | rfl <;> decide
 ·have e : oneStep 3 = 10 := rfl
  rw [e]
  unfold madeC oneCell
  by_cases hn : x.null = true
  ·have := (ok_nulls hx hn).2
   subst this
   simp [cellNull]
  ·have hn' : x.null = false := by simpa using hn
   cases hf : fitsI (-x.n) <;> simp [hn', hf]
 ·have e : oneStep 4 = 18 := rfl
  rw [e]
  unfold madeC oneCell
  by_cases hn : x.null = true
  ·have := (ok_nulls hx hn).2
   subst this
   simp [cellNull]
  ·have hn' : x.null = false := by simpa using hn
   simp [hn']
 ·have e : oneStep 5 = 18 := rfl
  rw [e]
  unfold madeC oneCell
  by_cases hn : x.null = true
  ·have := (ok_nulls hx hn).2
   subst this
   simp [cellNull]
  ·have hn' : x.null = false := by simpa using hn
   simp [hn']
theorem isnull_made (x : CellM) : madeC 16 x x = some (flagC x.null) := by unfold madeC; simp
theorem good_behind {k : Int} {n : Bool} {l : List StepM} (h : GoodE k n l) {s : Int} {t : TypeM} (hm : mayS ⟨s, 0, []⟩ = true) (hk : takesS s = 1) (ht : madeT s ⟨k, n⟩ ⟨k, n⟩ = some t) : GoodE t.kind t.null (l ++ [⟨s, 0, []⟩]) :=
 good_one h hm (by unfold fits; dsimp only; omega) hk ht
/-- What a step behind an expression gives. -/
theorem behind_eval {k : Int} {n : Bool} {l : List StepM} {r : List CellM} {s : Int} {t : TypeM} (h : GoodE k n l) (hl : l.length ≤ 63) (hr : RowS r) (hm : mayS ⟨s, 0, []⟩ = true) (hk : takesS s = 1) (ht : madeT s ⟨k, n⟩ ⟨k, n⟩ = some t) :
    evalS (colsS false) (l ++ [⟨s, 0, []⟩]) r = (match (gotE false r l).bind fun c => madeC s c c with | none => (cell0, 50) | some c => (c, 0)) := by
  rw [evalS_good (good_behind h hm hk ht) (by simp; omega) hr, got_one h hr hk]
  rfl
theorem oneD0 {α : Type} {enc : α → List Value} {k bs e : Nat} [hk : EncK enc k] {w₀ w : World} {S : Nat → Prop} {rs : List HP} (H : Mw.Sep w₀ S (blk bs (([] : List α).flatMap enc) e :: rs) w) : Mw.Sep w₀ S (rowD e k enc (.slice (some ⟨bs, 0, none⟩) 0 0) [] :: rs) w :=
 Sep.asRow (n := 0) H At0 (by simp) (by decide)
section
variable {w : World}
theorem exprOne_ok {vn vr : Value} {ns rn : List Int} {kind : Int} (hn : RowIn w vn intCells 1 ns) (hr : RowIn w vr intCells 1 rn) (hrf : ∀ x ∈ rn, fits x) (hT : TabsX w) :
    Rets Tryz.prog 8 [agg [vn], I kind, vr] w fun v w' => v = .bool true ∧ Kept noB w w' := by
  have H := Sep.start0 w
  have hrs := rowS_ok hrf
  refine rets3 Tryz.func8 rfl rfl rfl rfl ?_
  refine Sr ?_
  refine FL_box H (cs := [vn]) rfl (h := ?_)
  intro b0 w2 H2 k1
  refine Am ?_
  refine Nx ?_
  refine FL_loadAll H2 (h := ?_)
  refine Mv ?_
  refine FL_callN H2 (drawn_ok (k := kind) (hn.keep H2.kept)) (h := fun x w7 hx H7 k6 => ?_)
  obtain ⟨vl, l⟩ := x
  obtain ⟨⟨nn, hg⟩, _, hlen⟩ := hx
  dsimp only at hg hlen H7 ⊢
  have hl64 : l.length ≤ 63 := by have : (2 : Nat) ^ (5 - 0) = 32 := rfl; omega
  have hlf := eval_fits hg
  obtain ⟨B1, c1, rfl, hc1, hB1⟩ := Sep.formD H7 At0
  have hk4 := kindOf_in kind
  obtain ⟨kk, hkk⟩ : ∃ kk, kk = kindOf kind := ⟨_, rfl⟩
  rw [← hkk] at hg hk4 ⊢
  obtain ⟨hm1, hm2, hm3, hm4⟩ := oneStep_may hk4
  obtain ⟨tt, htt⟩ := hm4 nn
  obtain ⟨n16, h16⟩ := made_isnull kk nn
  have he1 := behind_eval (r := rowS rn) hg hl64 hrs (by decide) rfl h16
  have he2 := behind_eval (r := rowS rn) hg hl64 hrs hm1 hm2 htt
  have hf1 := eval_fits (good_behind hg (by decide) rfl h16)
  have hf2 := eval_fits (good_behind hg hm1 hm2 htt)
  refine Mv ?_
  refine Vx ?_
  refine Vx ?_
  refine Am ?_
  refine Am ?_
  refine Nx ?_
  refine Mv ?_
  refine FL_callN H7 (rowOf_ok (hr.keep H7.kept) hrf) (h := fun x2 w15 _ H15 k14 => ?_)
  obtain ⟨B2, c2, rfl, hc2, hB2⟩ := Sep.formD H15 At0
  refine Am ?_
  refine Nx ?_
  refine FL_callN H15 (columns_ok false) (h := fun x3 w18 _ H18 k17 => ?_)
  obtain ⟨B3, c3, rfl, hc3, hB3⟩ := Sep.formD H18 At0
  refine Mv ?_
  refine Mv ?_
  refine FL_callQ H18 (evalE_ok (rowIn_own H18 At0 hc3) (rowIn_own H18 At2 hc1) (rowIn_own H18 At1 hc2) hrs.fit hlf (hT.keep H18.kept).utf) (h := fun w22 H22 k21 => ?_)
  obtain ⟨cx, ex, hev, hcase⟩ := eval_cases false hg (by omega) hrs
  rw [hev]
  dsimp only
  have H22 := H22.drop0
  refine Mv ?_
  refine Vx ?_
  refine Vx ?_
  refine FL_alloc H22 (h := ?_)
  intro b10 w27 H27 k26
  refine FL_storeAll H27 (h := ?_)
  intro w29 H29
  refine Am ?_
  refine Nx ?_
  refine FL_callN H29 (columns_ok false) (h := fun x4 w32 _ H32 k31 => ?_)
  obtain ⟨B4, c4, rfl, hc4, hB4⟩ := Sep.formD H32 At0
  refine FL_buildSlice H32 (xs := []) (out := ([] : List StepM).flatMap stepCells) Elems.nil rfl rfl rfl (fun be w34 H34 k33 => ?_)
  refine Mv ?_
  have HH := oneD0 H34
  refine FL_appendO HH At0 (Sep_rdD HH At4) (by unfold maxLen; simp; omega) (by simp; omega) (cells_one (fun _ => rfl) _) (h := ?_)
  intro v5 w37 H37
  refine FL_val (Gives.build (out := stepCells ⟨16, 0, []⟩) (Fills.one rfl rfl rfl (by simp) rfl Fills.nil)) rfl ?_
  refine FL_buildSlice H37 (xs := [.tmp 38]) (out := [(⟨16, 0, []⟩ : StepM)].flatMap stepCells) (Elems.many rfl rfl Elems.nil) rfl rfl rfl (fun bs w40 H40 k39 => ?_)
  refine FL_appendD H40 (news := [(⟨16, 0, []⟩ : StepM)]) At0 (by unfold maxLen; simp; omega) (by simp; omega) (cells_one (fun _ => rfl) _) (h := ?_)
  intro v6 w42 H42
  obtain ⟨B6, c6, rfl, hc6, hB6⟩ := Sep.formD H42 At0
  refine Mv ?_
  refine FL_callQ H42 (evalE_ok (rowIn_own H42 At1 hc4) (rowIn_own H42 At0 hc6) (rowIn_own H42 At3 hc2) hrs.fit hf1 (hT.keep H42.kept).utf) (h := fun w45 H45 k44 => ?_)
  obtain ⟨c16, e16, hev16⟩ : ∃ c e, evalS (colsS false) ([] ++ l ++ [(⟨16, 0, []⟩ : StepM)]) (rowS rn) = (c, e) := ⟨_, _, rfl⟩
  rw [hev16]
  rw [List.nil_append, he1] at hev16
  dsimp only
  have H45 := H45.drop0.drop0
  refine Mv ?_
  refine Vx ?_
  refine Vx ?_
  refine FL_alloc H45 (h := ?_)
  intro b12 w50 H50 k49
  refine FL_storeAll H50 (h := ?_)
  intro w52 H52
  refine Am ?_
  refine Qn ?_
  refine FW_seq ?_
  refine Sr ?_
  refine Mv ?_
  refine Vs ?_
  refine Vg ?_
  refine Qn ?_
  refine FW_condP rfl (fun hc57 => ?_) (fun hc57 => ?_)
  · omega
  · refine Sk ?_
    refine FW_seq ?_
    refine Sr ?_
    refine Mv ?_
    refine Vn ?_
    refine Qn ?_
    refine FW_condP rfl (fun hc61 => ?_) (fun hc61 => ?_)
    · have hbad := hcase.resolve_left (fun h => hc61 h.1)
      refine Sr ?_
      obtain ⟨hx50, hgn, _⟩ := hbad
      rw [hgn] at hev16
      injection hev16 with hc16 he16
      subst hx50 he16
      refine Mv ?_
      refine Ve ?_
      refine Mv ?_
      refine FL_splitP (t := 53) rfl (fun hs66 => ?_) (fun hs66 => ?_)
      · refine On ?_
        refine Mv ?_
        refine On ?_
        refine Ve ?_
        refine Pt ?_
        refine Mv ?_
        refine FL_splitP (t := 57) rfl (fun hs71 => ?_) (fun hs71 => ?_)
        · refine On ?_
          refine FL_callQ H52 (works_ok (hT.keep H52.kept)) (h := fun w73 H73 k72 => ?_)
          refine Pt ?_
          refine Am ?_
          refine Qn ?_
          refine Rs (Qfn_ret (hR := ?_))
          exact ⟨rfl, H73.kept⟩
        · exact (hs71 trivial).elim
      · exact (hs66 trivial).elim
    · obtain ⟨rfl, hgot, hok, hfx⟩ := hcase.resolve_right (fun h => by omega)
      rw [hgot, Option.bind_some] at he2 hev16
      rw [isnull_made] at hev16
      rw [one_made hk4 hok] at he2
      injection hev16 with hc16 he16
      subst hc16 he16
      have hkk5 : kk.toNat < 6 := by unfold kind4 at hk4; omega
      have hkn : kk = ((kk.toNat : Nat) : Int) := by unfold kind4 at hk4; omega
      refine Sk ?_
      refine Sr ?_
      refine FL_buildSlice H52 (xs := [_, _, _, _, _, _]) (out := oneNums.flatMap intCells) (Elems.one rfl rfl (Elems.one rfl rfl (Elems.one rfl rfl (Elems.one rfl rfl (Elems.one rfl rfl (Elems.one rfl rfl Elems.nil)))))) rfl rfl rfl (fun bk w81 H81 k80 => ?_)
      refine Mv ?_
      have hRb : Rd w81 (some ⟨bk, 0, none⟩) intCells 1 oneNums := Sep.blkRow H81 At0 rfl
      refine FL_val (Gives.idxR (l := oneNums) (enc := intCells) (i := kk.toNat) rfl (congrArg I hkn) hRb hkk5) rfl ?_
      refine FL_val (Gives.loadW (f := 0) rfl hRb hm3 rfl) rfl ?_
      have H85 := H81.drop0
      refine Am ?_
      refine Nx ?_
      refine FL_callN H85 (columns_ok false) (h := fun x7 w88 _ H88 k87 => ?_)
      obtain ⟨B7, c7, rfl, hc7, hB7⟩ := Sep.formD H88 At0
      refine FL_buildSlice H88 (xs := []) (out := ([] : List StepM).flatMap stepCells) Elems.nil rfl rfl rfl (fun be w90 H90 k89 => ?_)
      refine Mv ?_
      have HH := oneD0 H90
      refine FL_appendO HH At0 (Sep_rdD HH At5) (by unfold maxLen; simp; omega) (by simp; omega) (cells_one (fun _ => rfl) _) (h := ?_)
      intro v8 w93 H93
      refine Mv ?_
      refine FL_val (Gives.build (out := stepCells ⟨oneStep kk, 0, []⟩) (Fills.one rfl rfl rfl (by simp) rfl Fills.nil)) rfl ?_
      refine FL_buildSlice H93 (xs := [.tmp 70]) (out := [(⟨oneStep kk, 0, []⟩ : StepM)].flatMap stepCells) (Elems.many rfl rfl Elems.nil) rfl rfl rfl (fun bs w97 H97 k96 => ?_)
      refine FL_appendD H97 (news := [(⟨oneStep kk, 0, []⟩ : StepM)]) At0 (by unfold maxLen; simp; omega) (by simp; omega) (cells_one (fun _ => rfl) _) (h := ?_)
      intro v9 w99 H99
      obtain ⟨B9, c9, rfl, hc9, hB9⟩ := Sep.formD H99 At0
      refine Mv ?_
      refine FL_callQ H99 (evalE_ok (rowIn_own H99 At1 hc7) (rowIn_own H99 At0 hc9) (rowIn_own H99 At4 hc2) hrs.fit hf2 (hT.keep H99.kept).utf) (h := fun w102 H102 k101 => ?_)
      obtain ⟨cy, ey, hevy⟩ : ∃ c e, evalS (colsS false) ([] ++ l ++ [(⟨oneStep kk, 0, []⟩ : StepM)]) (rowS rn) = (c, e) := ⟨_, _, rfl⟩
      rw [hevy]
      rw [List.nil_append, he2] at hevy
      dsimp only
      have H102 := H102.drop0.drop0
      refine Mv ?_
      refine Vx ?_
      refine Vx ?_
      refine FL_alloc H102 (h := ?_)
      intro b15 w107 H107 k106
      refine FL_storeAll H107 (h := ?_)
      intro w109 H109
      refine Am ?_
      refine Nx ?_
      refine Vf ?_
      refine Ld H109 ?_
      refine FL_val (Gives.neg rfl) rfl ?_
      refine FL_val (Gives.build (out := cellCells ⟨false, IntKind.i64.wrap (0 - cx.n), []⟩) (Fills.one rfl rfl rfl (by simp) rfl Fills.nil)) rfl ?_
      refine FL_alloc H109 (h := ?_)
      intro b17 w116 H116 k115
      refine FL_storeAll H116 (h := ?_)
      intro w118 H118
      refine Qn ?_
      refine FW_cut (fun _ : CellM => [(6, .bool false), (10, .pointer (some ⟨b10, 0, none⟩)), (12, .pointer (some ⟨b12, 0, none⟩)), (13, I 0), (15, .pointer (some ⟨b15, 0, none⟩)), (16, I ey), (17, .pointer (some ⟨b17, 0, none⟩))]) (fun z w' => (z = oneCell kk cx ∧ (cx.null = false → kk = 3 → fitsI (-cx.n) = true)) ∧ Sep w noB [blk b17 (cellCells z) 34, blk b15 (cellCells cy) 34, blk b12 (cellCells (flagC cx.null)) 34, blk b10 (cellCells cx) 34] w') ?_ ?_
      · refine FW_block ?_
        refine Sr ?_
        refine Vf ?_
        refine Ld H118 ?_
        refine Am ?_
        refine Qn ?_
        refine FW_cond rfl (fun hc123 => ?_) (fun hc123 => ?_)
        · have fz : cx = oneCell kk cx := by unfold oneCell; rw [if_pos hc123]
          have hft : cx.null = false → kk = 3 → fitsI (-cx.n) = true := fun h => by rw [hc123] at h; cases h
          refine FW_region ?_
          refine FL_loadAll H118 (h := ?_)
          refine FL_storeAll H118 (h := ?_)
          intro w127 H127
          refine FL_nil (Qblk_normal ?_)
          exact Qcut_normal cx ⟨rfl, rfl, rfl, rfl, rfl, rfl, rfl, trivial⟩ ⟨⟨fz, hft⟩, H127.firsts (l := [_, _, _, _])⟩
        · have hnl := hc123
          refine Sr ?_
          refine Mv ?_
          refine Ve ?_
          refine Am ?_
          refine Qn ?_
          refine FW_condP rfl (fun hc133 => ?_) (fun hc133 => ?_)
          · have hk1 : kk = 1 := hc133
            have hb : 0 ≤ cx.n ∧ cx.n ≤ 1 := by
              subst hk1
              rcases bool_cases hok rfl with ⟨h, _⟩ | h | h <;> rw [h] <;> decide
            have fz : (⟨false, 1 - cx.n, []⟩ : CellM) = oneCell kk cx := by unfold oneCell; rw [if_neg (by rw [hnl]; decide), if_pos hk1]
            have hft : cx.null = false → kk = 3 → fitsI (-cx.n) = true := fun _ h => by omega
            refine FW_region ?_
            refine Vf ?_
            refine Ld H118 ?_
            refine FL_val (Gives.subI (c := 1 - cx.n) rfl rfl rfl (by omega)) rfl ?_
            refine Vf ?_
            refine FL_store H118 (h := ?_)
            intro w140 H140
            refine FL_nil (Qblk_normal ?_)
            exact Qcut_normal ⟨false, 1 - cx.n, []⟩ ⟨rfl, rfl, rfl, rfl, rfl, rfl, rfl, trivial⟩ ⟨⟨fz, hft⟩, H140.firsts (l := [_, _, _, _])⟩
          · have hk1 : ¬ kk = 1 := hc133
            refine Sr ?_
            refine Mv ?_
            refine Vn ?_
            refine Am ?_
            refine Qn ?_
            refine FW_condP rfl (fun hc146 => ?_) (fun hc146 => ?_)
            · have fz : (⟨false, cx.s.length, []⟩ : CellM) = oneCell kk cx := by unfold oneCell; rw [if_neg (by rw [hnl]; decide), if_neg hk1, if_pos hc146]
              have hft : cx.null = false → kk = 3 → fitsI (-cx.n) = true := fun _ h => absurd h hc146
              refine FW_region ?_
              refine Vf ?_
              refine Ld H118 ?_
              refine Vt ?_
              refine Vf ?_
              refine FL_store H118 (h := ?_)
              intro w153 H153
              refine FL_nil (Qblk_normal ?_)
              exact Qcut_normal ⟨false, cx.s.length, []⟩ ⟨rfl, rfl, rfl, rfl, rfl, rfl, rfl, trivial⟩ ⟨⟨fz, hft⟩, H153.firsts (l := [_, _, _, _])⟩
            · have hk3 : kk = 3 := by omega
              refine Sr ?_
              refine Vf ?_
              refine Ld H118 ?_
              refine Ve ?_
              refine Am ?_
              refine Qn ?_
              refine FW_condP rfl (fun hc160 => ?_) (fun hc160 => ?_)
              · have hmin : cx.n = -9223372036854775808 := hc160
                rw [if_pos ⟨hnl, hk3, by rw [hmin]; rfl⟩] at hevy
                have hevy : (cell0, (50 : Int)) = (cy, ey) := hevy
                injection hevy with q1 q2
                subst q1 q2
                refine Sr ?_
                refine Mv ?_
                refine Ve ?_
                refine Mv ?_
                refine FL_splitP (t := 105) rfl (fun hs165 => ?_) (fun hs165 => ?_)
                · refine On ?_
                  refine Vf ?_
                  refine On ?_
                  refine Ld H118 ?_
                  refine On ?_
                  refine Ve ?_
                  refine Pt ?_
                  refine Mv ?_
                  refine FL_splitP (t := 110) rfl (fun hs171 => ?_) (fun hs171 => ?_)
                  · refine On ?_
                    refine Mv ?_
                    refine On ?_
                    refine Ve ?_
                    refine Pt ?_
                    refine Mv ?_
                    refine FL_splitP (t := 114) rfl (fun hs176 => ?_) (fun hs176 => ?_)
                    · refine On ?_
                      refine FL_callQ H118 (works_ok (hT.keep H118.kept)) (h := fun w178 H178 k177 => ?_)
                      refine Pt ?_
                      refine Am ?_
                      refine Qn ?_
                      refine FW_ret (Qblk_ret (Qcut_ret (Qfn_ret (hR := ?_))))
                      exact ⟨rfl, H178.kept⟩
                    · exact (hs176 trivial).elim
                  · exact absurd (show (flagC cx.null).n = 0 by rw [hnl]; rfl) hs171
                · exact (hs165 trivial).elim
              · have fz : (⟨false, IntKind.i64.wrap (0 - cx.n), []⟩ : CellM) = oneCell kk cx := by
                  unfold oneCell
                  rw [if_neg (by rw [hnl]; decide), if_neg hk1, if_neg (fun h => h hk3), Int.zero_sub, wrap64 (by unfold fits at hfx; omega)]
                have hft : cx.null = false → kk = 3 → fitsI (-cx.n) = true := fun _ _ => by unfold fits at hfx; unfold fitsI; rw [decide_eq_true_eq]; omega
                refine FW_skip (Qblk_normal ?_)
                exact Qcut_normal ⟨false, IntKind.i64.wrap (0 - cx.n), []⟩ ⟨rfl, rfl, rfl, rfl, rfl, rfl, rfl, trivial⟩ ⟨⟨fz, hft⟩, H118.firsts (l := [_, _, _, _])⟩
      · rintro z τ w188 ⟨⟨fz, hft⟩, H188⟩
        rw [if_neg (fun h => by have := hft h.1 h.2.1; rw [this] at h; exact absurd h.2.2 (by decide))] at hevy
        have hevy : (oneCell kk cx, (0 : Int)) = (cy, ey) := hevy
        injection hevy with q1 q2
        subst fz q1 q2
        simp only [upds, like, upd_ds, und_ds]
        refine FW_seq ?_
        refine FW_drawS rfl H188 (h := fun hok189 w191 H191 => ?_)
        refine FGmove hok189 0 (h := ?_)
        refine FGp hok189 1 rfl rfl (fun _ => (Gives.eql rfl rfl)) (by kernel_rfl) ?_
        refine FGmove hok189 2 (h := ?_)
        refine FG_splitP (t := 119) rfl (fun hs193 => ?_) (fun hs193 => ?_)
        · refine FGloadAll hok189 3 H191 (h := ?_)
          refine FGp hok189 4 rfl rfl (fun _ => Gives.build (out := cellCells ⟨false, 1, []⟩) (Fills.one rfl rfl rfl (by simp) rfl Fills.nil)) (by kernel_rfl) ?_
          refine FGp hok189 5 rfl rfl (fun _ => (Gives.eqlG (enc := cellCells) _ _ rfl rfl)) (by kernel_rfl) ?_
          refine FGp hok189 6 rfl rfl (fun _ => (Gives.field0 rfl)) (by kernel_rfl) ?_
          refine FGload hok189 7 H191 (h := ?_)
          refine FGp hok189 8 rfl rfl (fun _ => (Gives.eqlB rfl rfl)) (by kernel_rfl) ?_
          refine FGp hok189 9 rfl rfl (fun _ => Gives.pickT rfl rfl) (by kernel_rfl) ?_
          refine FGmove hok189 10 (h := ?_)
          refine FG_splitP (t := 127) rfl (fun hs201 => ?_) (fun hs201 => ?_)
          · refine FGloadAll hok189 11 H191 (h := ?_)
            refine FGp hok189 12 rfl rfl (fun _ => Gives.build (out := cellCells cell0) Fills.nil) (by kernel_rfl) ?_
            refine FGp hok189 13 rfl rfl (fun _ => (Gives.eqlG (enc := cellCells) _ _ rfl rfl)) (by kernel_rfl) ?_
            refine FGp hok189 14 rfl rfl (fun _ => (Gives.field0 rfl)) (by kernel_rfl) ?_
            refine FGload hok189 15 H191 (h := ?_)
            refine FGp hok189 16 rfl rfl (fun _ => (Gives.neqB rfl rfl)) (by kernel_rfl) ?_
            refine FGp hok189 17 rfl rfl (fun _ => Gives.pickT rfl rfl) (by kernel_rfl) ?_
            refine FGmove hok189 18 (h := ?_)
            refine FG_split (t := 135) rfl (fun hs209 => ?_) (fun hs209 => ?_)
            · refine FGmove hok189 19 (h := ?_)
              refine FGp hok189 20 rfl rfl (fun _ => (Gives.eql rfl rfl)) (by kernel_rfl) ?_
              refine FGp hok189 21 rfl rfl (fun _ => Gives.pickT rfl rfl) (by kernel_rfl) ?_
              refine FGmove hok189 22 (h := ?_)
              refine FG_splitP (t := 139) rfl (fun hs212 => ?_) (fun hs212 => ?_)
              · refine FGloadAll hok189 23 H191 (h := ?_)
                refine FGloadAll hok189 24 H191 (h := ?_)
                refine FGp hok189 25 rfl rfl (fun _ => (Gives.eqlG (enc := cellCells) _ _ rfl rfl)) (by kernel_rfl) ?_
                refine FGp hok189 26 rfl rfl (fun _ => Gives.pickT rfl rfl) (by kernel_rfl) ?_
                refine FGmove hok189 27 (h := ?_)
                refine FG_splitP (t := 144) rfl (fun hs217 => ?_) (fun hs217 => ?_)
                · refine FGcallQ hok189 28 [] H191 (works_ok (hT.keep H191.kept)) (h := fun w219 H219 k218 => ⟨Stab_nil, ?_⟩)
                  refine FGp hok189 29 rfl rfl (fun _ => Gives.pickT rfl rfl) (by kernel_rfl) ?_
                  refine FGp hok189 30 rfl rfl (fun _ => Gives.assign rfl) (by kernel_rfl) ?_
                  refine FG_end hok189 (by kernel_rfl) ?_
                  refine Qseq_normal ?_
                  refine FW_ret (Qfn_ret (hR := ?_))
                  exact ⟨rfl, H219.kept⟩
                · exact (hs217 trivial).elim
              · exact (hs212 trivial).elim
            · generalize cx.null = bb at hs209; cases bb <;> exact absurd hs209 (by decide)
          · generalize cx.null = bb at hs201; cases bb <;> exact absurd hs201 (by decide)
        · exact (hs193 trivial).elim
end
end Go.Proofs.YtmkaahkbhdlniaaGreatDoor
/-
 From a contract to a row: arguments read as rows; what a law's row asks behind the call. Nothing of a given program stands here.
-/
namespace Go.Mw
open Go.RowKit Go.ChangeShapes Go.WideShapes Go.Deep

section
variable {H : Type} {enc : TypeId × Value → H} {P : Program}
theorem trodAll_stays (hl : laidOutB P = true) {W W' : World} (hk : Kept noB W W') {sp : Nat → Bool} : ∀ {ts : List TypeId} {vs : List Value} {ds : List (DataW H)} {ps : List MemPlace}, (∀ t ∈ ts, P.readableRec t = true ∧ t < P.types.size) →
    DataW.TrodAll enc P W 0 (fun _ => true) true ts vs ds ps → (∀ x ∈ ps, x.block < W.heap.size) → (∀ x ∈ ps, sp x.block = true) → DataW.TrodAll enc P W' 0 sp true ts vs ds ps
  | [], [], [], _, _, h, _, _ => h
  | t :: ts, v :: vs, d :: ds, ps, ht, ⟨p, q, h1, h2, e⟩, hlt, hsp => by
    subst e
    exact ⟨p, q, WideElems.Trod_stays hl (ht t List.mem_cons_self).1 (ht t List.mem_cons_self).2 h1 (fun x hx => hk.below.same (hlt x (List.mem_append_left _ hx))) (fun x hx => hsp x (List.mem_append_left _ hx)),
      trodAll_stays hl hk (fun u hu => ht u (List.mem_cons_of_mem _ hu)) h2 (fun x hx => hlt x (List.mem_append_right _ hx)) (fun x hx => hsp x (List.mem_append_right _ hx)), rfl⟩
  | [], [], _ :: _, _, _, h, _, _ => h.elim
  | [], _ :: _, _, _, _, h, _, _ => by cases ‹List (DataW H)› <;> exact h.elim
  | _ :: _, [], _, _, _, h, _, _ => h.elim
  | _ :: _, _ :: _, [], _, _, h, _, _ => h.elim
/-- What a row asks, where nothing that was there has turned and the answer is true. -/
theorem post_law {f : Func} {s : ChangeSpec} {apart fresh handsOn again : Bool} {W W' : World} {args : Array Value} {t : TypeId} {ds gs : List (DataW H)} {before : List MemPlace} (hl : laidOutB P = true)
    (hW : DataW.Whole enc P f.params.toList s.vars apart W args.toList ds gs before) (hvars : s.vars = []) (hr : f.resultTypes = #[t]) (hb : P.underlying t = some .bool) (hp0 : (f.params.toList.all fun t => P.readableRec t && decide (t < P.types.size)) = true)
    (hs : s.fn H (ds ++ gs) = { results := [.lit (.bool true)], args := ds }) (hk : Kept noB W W') (hok : Value.okWide P W' .any 0 t (.bool true)) : s.post enc P f apart fresh handsOn again W args (.bool true) W' := by
  have hp : ∀ t ∈ f.params.toList, P.readableRec t = true ∧ t < P.types.size := fun t ht => by
    have := List.all_eq_true.1 hp0 t ht
    simpa using this
  have hW' := hW
  obtain ⟨pa, pv, hA, hV, rfl, hz, hn⟩ := hW
  have hnil : gs = [] ∧ pv = [] := by
    rw [hvars] at hV
    exact trodVars_none hV
  obtain ⟨rfl, rfl⟩ := hnil
  have hlt : ∀ p ∈ pa, p.block < W.heap.size := fun p hp => hW'.lt p (List.mem_append_left _ hp)
  have hres : ∀ (b : Nat) (sp : Nat → Bool) (hd : Bool), DataW.TrodAll enc P W' b sp hd f.resultTypes.toList ((Value.bool true).resultList f.resultTypes.size) (s.fn H (ds ++ [])).results [] := by
    intro b sp hd
    rw [hs, hr]
    exact trodAll_mk1 (shut_bool hb true)
  have hargs : ∀ sp : Nat → Bool, (∀ p ∈ pa, sp p.block = true) → DataW.TrodAll enc P W' 0 sp true f.params.toList args.toList (s.fn H (ds ++ [])).args pa := by
    intro sp hsp
    rw [hs]
    exact trodAll_stays hl hk hp hA hlt hsp
  have hvs : ∀ sp : Nat → Bool, DataW.TrodVars enc P W' sp s.vars (s.fn H (ds ++ [])).vars [] := by
    intro sp
    rw [hvars, hs]
    exact rfl
  refine ⟨ds, [], pa ++ [], [], pa, [], hW', hres _ _ _, hargs _ (fun p hp => by simpa using hlt p hp), hvs _, World.keptBut_mono (fun p hp => ⟨hp, ?_⟩) (hk.below.frame (· ∈ pa ++ [])), fun _ => ?_⟩
  · simpa using hp
  · refine ⟨fun j t' r hj hv => ?_, _, _, ([] ++ pa) ++ [], ⟨[] ++ pa, [], trodAll_append (hargs _ (fun _ _ => rfl)) (hres _ _ _), hvs _, rfl, ?_, ?_⟩, ?_⟩
    · exact ok_one hr rfl hok j t' r hj hv
    · intro b off hp
      have hin : MemPlace.cell b off ∈ pa := by simpa using hp
      rw [hk.below.frozen (hlt _ hin)]
      exact hz b off (by simpa using hin)
    · intro ha
      have := hn ha
      simpa using this
    · intro p hp _
      simpa using hp
/-- So many things that exist make a list. -/
theorem exists_list {α : Type} {Q : Nat → α → Prop} : ∀ n : Nat, (∀ i, i < n → ∃ x, Q i x) → ∃ l : List α, l.length = n ∧ ∀ i x, l[i]? = some x → Q i x
 | 0, _ => ⟨[], rfl, fun i x h => by simp at h⟩
 | n + 1, h => by
  obtain ⟨l, h1, h2⟩ := exists_list n fun i hi => h i (by omega)
  obtain ⟨x, hx⟩ := h n (by omega)
  refine ⟨l ++ [x], by simp [h1], fun i y hy => ?_⟩
  rw [List.getElem?_append] at hy
  split at hy
  ·exact h2 i y hy
  ·rename_i hge
   have hi : i = n := by
    rcases Nat.lt_or_ge (i - l.length) 1 with h3 | h3
    ·omega
    ·rw [List.getElem?_eq_none (by simpa using h3)] at hy; cases hy
   subst hi
   rw [h1, Nat.sub_self] at hy
   injection hy with hy
   rw [← hy]; exact hx
/-- Cells of things one behind the other. -/
theorem flatMap_get {α : Type} {f : α → List Value} {s : Nat} (hf : ∀ x, (f x).length = s) : ∀ (l : List α) (k : Nat) (v : Value), (l.flatMap f)[k]? = some v → ∃ i j x, l[i]? = some x ∧ (f x)[j]? = some v ∧ k = i * s + j
 | [], k, v, h => by simp at h
 | x :: l, k, v, h => by
  rw [List.flatMap_cons, List.getElem?_append] at h
  split at h
  ·exact ⟨0, k, x, rfl, h, by omega⟩
  ·rename_i hge
   obtain ⟨i, j, y, h1, h2, h3⟩ := flatMap_get hf l _ v h
   rw [hf] at h3 hge
   exact ⟨i + 1, j, y, by simpa using h1, h2, by rw [Nat.add_mul]; omega⟩
theorem flatMap_len {α : Type} {f : α → List Value} {s : Nat} (hf : ∀ x, (f x).length = s) : ∀ l : List α, (l.flatMap f).length = l.length * s
 | [] => by simp
 | x :: l => by rw [List.flatMap_cons, List.length_append, hf, flatMap_len hf l, List.length_cons, Nat.add_mul]; omega
/-- A struct's reading, field by field. -/
theorem struct_fields {e : TypeId} {fs : Array Field} {W : World} {base n : Nat} {sp : Nat → Bool} {held : Bool} {cs : List Value} {y : DataW H × List MemPlace} (he : P.underlying e = some (.struct fs)) (hone : oneCellFields P fs = true) (h : DataW.trod enc P W base sp held n e cs = some y) (_hC : P.cellsOf e = fs.size) (hcl : cs.length = fs.size) :
    ∀ (j : Nat) (fd : Field), fs[j]? = some fd → ∃ v y' n', cs[j]? = some v ∧ DataW.trod enc P W base sp held n' fd.type [v] = some y' := by
  obtain ⟨ys, n', hn', hy, hlen, hyl, hf⟩ := DataW.trod_struct he h
  intro j fd hj
  obtain ⟨ho, hk⟩ := hone_of hone j fd hj
  have hjl : j < fs.size := (Array.getElem?_eq_some_iff.1 hj).1
  have h1 := hf j fd hj
  rw [ho, hk] at h1
  have hone' : (cs.drop j).take 1 = [cs[j]'(by omega)] := by
    rw [List.drop_eq_getElem_cons (by omega)]
    rfl
  rw [hone'] at h1
  have hys : ys[j]? = some (ys[j]'(by omega)) := List.getElem?_eq_getElem (by omega)
  exact ⟨_, _, _, List.getElem?_eq_getElem (by omega), h1.trans hys⟩
end
end Go.Mw
/-
 What the row lists of the library's variables, as the walks want it.
-/
namespace Go.Proofs.YtmkaahkbhdlniaaGreatDoor
open Go Go.Mw Go.Lib Go.RowKit
set_option maxRecDepth 100000
theorem ownIs : ownKnob Tryz.prog.godebug = none := by kernel_rfl
theorem laidIs : laidOutB Tryz.prog = true := by kernel_rfl
def laidL : List (String × DataW Unit) := [("math/bits.deBruijn32tab", Rows.laid_math_bits_deBruijn32tab), ("math/bits.deBruijn64tab", Rows.laid_math_bits_deBruijn64tab), ("internal/strconv.uint64pow10", Rows.laid_internal_strconv_uint64pow10), ("unicode/utf8.acceptRanges", Rows.laid_unicode_utf8_acceptRanges), ("strconv.ErrRange", Rows.laid_strconv_ErrRange), ("strconv.ErrSyntax", Rows.laid_strconv_ErrSyntax), ("unicode/utf8.first", Rows.laid_unicode_utf8_first)]
theorem u8extra : U8Extra Tryz.prog Tryz.lays260_ren := ⟨by kernel_rfl, by kernel_rfl, by kernel_rfl, by kernel_rfl, by kernel_rfl, by kernel_rfl, by kernel_rfl⟩
theorem first_eq : Rows.laid_unicode_utf8_first = firstData := Pinned.utf8First_eq
theorem accept_eq : (Rows.laid_unicode_utf8_acceptRanges : DataW Unit) = acceptData := by kernel_rfl
theorem pow_eq : (Rows.laid_internal_strconv_uint64pow10 : DataW Unit) = tabData .u64 pow10Tab := by kernel_rfl
theorem star_eq : "*" ++ "errors.errorString" = "*errors.errorString" := by decide
theorem errRow (u : TypeId) (h : Tryz.prog.typeName? 3 u = some "*errors.errorString") : u = 264 :=
 typeName_ptr_named (nm := "errors.errorString") (by rw [star_eq]; kernel_rfl) (by kernel_rfl) (by decide) u (by rw [star_eq]; exact h)
theorem cellsErr : Tryz.prog.cellsOf 266 = 1 := by kernel_rfl
theorem cellsStr : Tryz.prog.cellsOf 9 = 1 := by kernel_rfl
theorem tabsX_of {W : World} (h0 : laidMetH Tryz.prog laidL W) (hsh : W.ShapedOpen Tryz.prog) : TabsX W := by
 rw [MakeChecks.laidMetH_plain _ _ _ (by kernel_rfl)] at h0
 have h := h0
 refine ⟨?_, ?_, ?_, ?_, ?_⟩
 ·exact utf8Tabs_of_reads Tryz.lays260 u8extra (first_eq ▸ Lib.laidMet.reads h (by unfold laidL; simp)) (accept_eq ▸ Lib.laidMet.reads h (by unfold laidL; simp))
 ·obtain ⟨g, t, cs, fuel, p, hg, hty, hvar, hd⟩ := Lib.laidMet.reads (n := "internal/strconv.uint64pow10") h (by unfold laidL; exact .tail _ (.tail _ (.head _)))
  have hg' : Tryz.prog.globalNamed "internal/strconv.uint64pow10" = some 3 := by kernel_rfl
  obtain rfl := Option.some.inj (hg'.symm.trans hg)
  have hty' : (Tryz.prog.globals[3]?).map (·.type) = some 257 := by kernel_rfl
  obtain rfl := Option.some.inj (hty'.symm.trans hty)
  rw [pow_eq] at hd
  have hcs := cells_of_tab Tryz.underlying257 Tryz.underlying178 (by kernel_rfl) (by kernel_rfl) hd
  unfold Lib.TabIs
  rw [hvar, ← hcs]
 ·obtain ⟨a, s, hv, _⟩ := laid_sentinel (g := 4) (ti := 125) (tp := 264) (te := 266) (ts := 9) h.tail.tail.tail.tail.tail (by kernel_rfl) (by kernel_rfl) Tryz.underlying125 errRow Tryz.underlying264 Tryz.underlying266 rfl rfl Tryz.underlying9 cellsErr cellsStr
  exact ⟨_, _, hv⟩
 ·obtain ⟨a, s, hv, _⟩ := laid_sentinel (g := 5) (ti := 125) (tp := 264) (te := 266) (ts := 9) h.tail.tail.tail.tail (by kernel_rfl) (by kernel_rfl) Tryz.underlying125 errRow Tryz.underlying264 Tryz.underlying266 rfl rfl Tryz.underlying9 cellsErr cellsStr
  exact ⟨_, _, hv⟩
 ·exact Tryz.laysM219.s1_3 W hsh
end Go.Proofs.YtmkaahkbhdlniaaGreatDoor
/-
 The arguments of the statements on expressions, read as rows.
-/
namespace Go.Proofs.YtmkaahkbhdlniaaGreatDoor
open Go Go.Mw Go.ChangeShapes Go.WideShapes Go.RowKit
set_option maxRecDepth 4000
section
variable {H : Type} {enc : TypeId × Value → H} {W : World} {r : Reach} {base : Nat} {v : Value} {d : DataW H} {ps : List MemPlace}
theorem fits_of {n : Int} {k : IntKind} (hk : k = .i64) (h : (Lit.int k n).wf = true) : fits n := by
 subst hk
 simp [Lit.wf, IntKind.min, IntKind.max, IntKind.bits, IntKind.signed] at h
 unfold fits
 omega
theorem rowIn_of {α : Type} {f : α → List Value} {k c : Nat} {A : Option Addr} {l : List α} (hc : l.length ≤ c) (hm : c ≤ maxLen) (h : RowAt W A l.length k (l.flatMap f)) : RowIn W (.slice A l.length c) f k l :=
 ⟨A, c, rfl, ⟨hc, by unfold maxLen at hm; omega⟩, h⟩
end
end Go.Proofs.YtmkaahkbhdlniaaGreatDoor
/-
 Slices inside of what is read, as rows. Nothing of a given program stands here.
-/
namespace Go.Mw
open Go.RowKit Go.ChangeShapes Go.WideShapes Go.Deep

section
variable {H : Type} {enc : TypeId × Value → H} {P : Program}
theorem open_rows_in {α : Type} {f : α → List Value} {good : α → Prop} {s : Nat} {t e : TypeId} {W : World} {v : Value} {n0 : Nat} {y : DataW H × List MemPlace} (ht : P.underlying t = some (.slice e)) (hC : P.cellsOf e = s) (hf : ∀ x, (f x).length = s)
    (hel : ∀ n cs y, cs.length = s → DataW.trod enc P W 0 (fun _ => true) true n e cs = some y → ∃ x, cs = f x ∧ good x) (h : DataW.trod enc P W 0 (fun _ => true) true n0 t [v] = some y) :
    ∃ A c, ∃ l : List α, v = .slice A l.length c ∧ l.length ≤ c ∧ c ≤ maxLen ∧ RowAt W A l.length s (l.flatMap f) ∧ ∀ x ∈ l, good x := by
  rcases open_slice ht h with ⟨h0, _⟩ | ⟨a, len, cap, m, n, D, Pl, hcs, _, hl, hm, hmm, _, hi⟩
  · injection h0 with h0 _
    exact ⟨none, 0, [], h0, Nat.le_refl _, Nat.zero_le _, RowAt.nil _ _ _, fun _ h => by cases h⟩
  · injection hcs with hcs _
    have hm2 : m = cap := by simpa using hmm
    subst hm2
    obtain ⟨l, h1, h2⟩ := exists_list (α := α) (Q := fun i x => good x ∧ ∀ j u, (f x)[j]? = some u → W.cell? (a.add (i * s + j)) = some u) len (fun i hi' => by
      obtain ⟨cs', hc, ht'⟩ := hi i (by omega)
      rw [hC] at hc
      obtain ⟨_, hcl, hat⟩ := World.cells?_some hc
      obtain ⟨x, hx, hg⟩ := hel _ _ _ hcl ht'
      refine ⟨x, hg, fun j u hu => ?_⟩
      have hj : j < s := by rw [← hf x]; exact (List.getElem?_eq_some_iff.1 hu).1
      have hcell := hat j hj
      rw [← Go.Deep.add_add, hcell, hx]
      exact hu)
    subst h1
    refine ⟨some a, m, l, hcs, hl, hm, ⟨flatMap_len hf l, fun _ => ⟨a, rfl, fun k u hk => ?_⟩⟩, fun x hx => ?_⟩
    · obtain ⟨i, j, x, hi', hj, rfl⟩ := flatMap_get hf l k u hk
      exact (h2 i x hi').2 j u hj
    · obtain ⟨i, hi'⟩ := List.mem_iff_getElem?.1 hx
      exact (h2 i x hi').1
end
end Go.Mw
/-
 The arguments of the statements on drawn expressions, read.
-/
namespace Go.Proofs.YtmkaahkbhdlniaaGreatDoor
open Go Go.Mw Go.ChangeShapes Go.WideShapes Go.RowKit
set_option maxRecDepth 4000
section
variable {H : Type} {enc : TypeId × Value → H} {W : World} {r : Reach} {base : Nat} {v : Value} {d : DataW H} {ps : List MemPlace}
theorem intsX_in {n0 : Nat} {y : DataW H × List MemPlace} (h : DataW.trod enc Tryz.prog W 0 (fun _ => true) true n0 37 [v] = some y) : ∃ l : List Int, RowIn W v intCells 1 l ∧ ∀ x ∈ l, fits x := by
 obtain ⟨A, c, l, rfl, h2, h3, h4, h5⟩ := open_rows_in (f := intCells) (good := fits) (s := 1) Tryz.underlying37 (by kernel_rfl) (fun _ => rfl) (fun n cs y _ hc => by
  obtain ⟨k, hk, _, hw⟩ := DataW.trod_int Tryz.underlying3 hc
  exact ⟨k, hk, fits_of rfl hw⟩) h
 exact ⟨l, rowIn_of h2 h3 h4, h5⟩
theorem open_ints (hv : Value.okWide Tryz.prog W r base 37 v) (h : DataW.Trod enc Tryz.prog W 0 (fun _ => true) true 37 v d ps) : ∃ l : List Int, RowIn W v intCells 1 l ∧ ∀ x ∈ l, fits x := by
 obtain ⟨a0, len0, cap0, rfl⟩ := okWide_slice Tryz.underlying37 hv
 obtain ⟨fuel, hfu⟩ := h
 exact intsX_in hfu
theorem open_intX (hv : Value.okWide Tryz.prog W r base 3 v) (h : DataW.Trod enc Tryz.prog W 0 (fun _ => true) true 3 v d ps) : ∃ k, v = I k ∧ fits k := by
 obtain ⟨k0, rfl⟩ := okWide_int Tryz.underlying3 hv
 obtain ⟨fuel, hfu⟩ := h
 obtain ⟨k, hk, _, hw⟩ := DataW.trod_int Tryz.underlying3 hfu
 have hk : [Value.int .i64 k0] = [Value.int .i64 k] := hk
 injection hk with hk _
 injection hk with _ hk
 subst hk
 exact ⟨_, rfl, fits_of rfl hw⟩
theorem seed_in {n0 : Nat} {y : DataW H × List MemPlace} (h : DataW.trod enc Tryz.prog W 0 (fun _ => true) true n0 46 [v] = some y) : ∃ l : List Int, RowIn W v intCells 1 l := by
 have hf := struct_fields Tryz.underlying46 (by kernel_rfl) h (by kernel_rfl) rfl
 obtain ⟨v0, _, _, hv0, h0⟩ := hf 0 _ rfl
 simp only [List.getElem?_cons_zero, Option.some.injEq] at hv0
 subst hv0
 obtain ⟨l, hl, _⟩ := intsX_in h0
 exact ⟨l, hl⟩
theorem open_seed (hv : Value.okWide Tryz.prog W r base 46 v) (h : DataW.Trod enc Tryz.prog W 0 (fun _ => true) true 46 v d ps) : ∃ vn, v = agg [vn] ∧ ∃ l : List Int, RowIn W vn intCells 1 l := by
 obtain ⟨cs, rfl, hsz⟩ := okWide_struct Tryz.underlying46 hv
 have hc : Tryz.prog.cellsOf 46 = 1 := by kernel_rfl
 rw [hc] at hsz
 obtain ⟨fuel, hfu⟩ := h
 obtain ⟨l⟩ := cs
 match l, hsz with
 | [vn], _ => exact ⟨vn, rfl, seed_in hfu⟩
end
end Go.Proofs.YtmkaahkbhdlniaaGreatDoor
/-
 The closed facts of a row in two parts, so that each is checked by itself. No program stands here.
-/
namespace Go.Proofs.YtmkaahkbhdlniaaGreatDoor
open Go
def facts1 (P : Program) (f : FuncId) (fn : Func) (s : ChangeSpec) (c : OpenClaim) : Bool :=
 c.wf (OpenSpec.ofChange s) && laidOutB P && mapsRowed P &&
 fn.params.all (P.readableRec ·) && namedTie P c.named s.vars &&
 (c.stops == []) && (P.stops == []) && (c.knobs == []) && (P.stopKnobs == []) &&
 (c.inPlace == P.inPlace f) && (c.unfollowed == P.unfollowed f) && (c.recurses == P.recurses f) && (c.named == P.varsNamed f)
def facts2 (P : Program) (fn : Func) (s : ChangeSpec) (c : OpenClaim) : Bool :=
 (c.maps == (fn.params.toList ++ s.plain.varTypes P).any (P.mapsRec ·)) && (c.ifaces == (fn.params.toList ++ s.plain.varTypes P).any (P.ifacesRec ·)) && (c.mapsOut == P.mapsAmong fn.resultTypes.toList) &&
 (c.loops == (fn.params.toList ++ s.plain.varTypes P).any (P.loopsFrom ·)) && (c.wideKeys == (fn.params.toList ++ s.plain.varTypes P ++ fn.resultTypes.toList).any (P.wideKeysFrom ·)) &&
 s.vars.all (P.varReadable ·) && fn.resultTypes.all (fun t => P.readableRec t && decide (t < P.types.size)) && (c.ifacesOut == fn.resultTypes.toList.any (P.ifacesRec ·)) && (c.loopsOut == fn.resultTypes.toList.any (P.loopsFrom ·)) && (c.plainKeys == P.plainKeys) && c.shortTexts.isNone
def facts3 (P : Program) (fn : Func) (s : ChangeSpec) (c : OpenClaim) : Bool :=
 P.stopsHeard && P.mayEnter && (c.lifted == P.liftsFinal) && (P.make == some c.make) && (c.kinds == (if c.domain.isEmpty then [] else fn.params.toList.map fun t => match P.underlying t with | some (.int k) => some k | _ => none)) && (c.pinned == c.pinnedBy) &&
 (c.veiled == (fn.params.toList ++ s.plain.varTypes P ++ fn.resultTypes.toList).any (P.veiledRec ·)) && c.veiledFits P fn.params.toList (fn.params.toList ++ s.plain.varTypes P ++ fn.resultTypes.toList)
theorem joined_of {P : Program} {f : FuncId} {fn : Func} {s : ChangeSpec} {c : OpenClaim} (h1 : facts1 P f fn s c = true) (h2 : facts2 P fn s c = true) (h3 : facts3 P fn s c = true) : joinedFacts P f fn s c = true := by
 simp only [facts1, Bool.and_eq_true] at h1
 simp only [facts2, Bool.and_eq_true] at h2
 simp only [facts3, Bool.and_eq_true] at h3
 simp only [joinedFacts, Bool.and_eq_true]
 simp only [h1, h2, h3, and_self, and_true, true_and]
 exact h3.1.1.1.2
end Go.Proofs.YtmkaahkbhdlniaaGreatDoor
