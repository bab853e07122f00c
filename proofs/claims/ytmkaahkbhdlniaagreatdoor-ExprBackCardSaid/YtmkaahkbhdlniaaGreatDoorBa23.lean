/-
 The law's examples, all of them, walked.
-/
import Derived.Test.YtmkaahkbhdlniaaGreatDoorBa22
set_option linter.unusedVariables false
set_option linter.unusedSimpArgs false
namespace Go.Proofs.YtmkaahkbhdlniaaGreatDoor
open Go Go.Mw Go.Lib
set_option maxRecDepth 4000
section
variable {w : World}
theorem works_ok (hT : TabsX w) : Rets Tryz.prog 27 [] w fun v w' => v = .bool true ∧ Kept noB w w' := by
 have H := Sep.start0 w
 refine rets0 Tryz.func27 rfl rfl rfl ?_
 refine Sr ?_
 refine Am ?_
 refine Nx ?_
 refine FL_val (Gives.build (out := cellCells cellNull) (Fills.one rfl rfl rfl (by simp) rfl Fills.nil)) rfl ?_
 refine FL_alloc H (h := ?_)
 intro b1 w4 H4 k3
 refine FL_storeAll H4 (h := ?_)
 intro w6 H6
 refine Qn ?_
 refine FW_seq ?_
 refine Sr ?_
 refine FL_val (Gives.build (out := cellCells ⟨false, 7, []⟩) (Fills.one rfl rfl rfl (by simp) rfl Fills.nil)) rfl ?_
 refine FL_callQ H6 (gives_ok tx1 3 false ⟨false, 7, []⟩ 0 (by decide) gives1 (hT.keep H6.kept)) (h := fun w9 H9 k8 => ?_)
 refine FL_val (Gives.not rfl) rfl ?_
 refine Mv ?_
 refine FL_split (t := 10) rfl (fun hs12 => ?_) (fun hs12 => ?_)
 ·exact Bool.noConfusion hs12
 ·refine On ?_
  refine FL_loadAll H9 (h := ?_)
  refine On ?_
  refine FL_callQ H9 (gives_ok tx2 1 true cellNull 0 (by decide) gives2 (hT.keep H9.kept)) (h := fun w16 H16 k15 => ?_)
  refine On ?_
  refine FL_val (Gives.not rfl) rfl ?_
  refine Pf ?_
  refine Mv ?_
  refine FL_split (t := 15) rfl (fun hs20 => ?_) (fun hs20 => ?_)
  ·exact Bool.noConfusion hs20
  ·refine On ?_
   refine FL_val (Gives.build (out := cellCells ⟨false, 1, []⟩) (Fills.one rfl rfl rfl (by simp) rfl Fills.nil)) rfl ?_
   refine On ?_
   refine FL_callQ H16 (gives_ok tx3 1 false ⟨false, 1, []⟩ 0 (by decide) gives3 (hT.keep H16.kept)) (h := fun w24 H24 k23 => ?_)
   refine On ?_
   refine FL_val (Gives.not rfl) rfl ?_
   refine Pf ?_
   refine Mv ?_
   refine FL_split (t := 20) rfl (fun hs28 => ?_) (fun hs28 => ?_)
   ·exact Bool.noConfusion hs28
   ·refine On ?_
    refine FL_val (Gives.build (out := cellCells ⟨false, 1, []⟩) (Fills.one rfl rfl rfl (by simp) rfl Fills.nil)) rfl ?_
    refine On ?_
    refine FL_callQ H24 (gives_ok tx4 1 true ⟨false, 1, []⟩ 0 (by decide) gives4 (hT.keep H24.kept)) (h := fun w32 H32 k31 => ?_)
    refine On ?_
    refine FL_val (Gives.not rfl) rfl ?_
    refine Pf ?_
    refine Mv ?_
    refine FL_split (t := 25) rfl (fun hs36 => ?_) (fun hs36 => ?_)
    ·exact Bool.noConfusion hs36
    ·refine On ?_
     refine FL_val (Gives.build (out := cellCells ⟨false, 0, []⟩) Fills.nil) rfl ?_
     refine On ?_
     refine FL_callQ H32 (gives_ok tx5 1 true ⟨false, 0, []⟩ 0 (by decide) gives5 (hT.keep H32.kept)) (h := fun w40 H40 k39 => ?_)
     refine On ?_
     refine FL_val (Gives.not rfl) rfl ?_
     refine Pf ?_
     refine Mv ?_
     refine FL_split (t := 30) rfl (fun hs44 => ?_) (fun hs44 => ?_)
     ·exact Bool.noConfusion hs44
     ·refine On ?_
      refine FL_val (Gives.build (out := cellCells ⟨false, 2, []⟩) (Fills.one rfl rfl rfl (by simp) rfl Fills.nil)) rfl ?_
      refine On ?_
      refine FL_callQ H40 (gives_ok tx6 3 false ⟨false, 2, []⟩ 0 (by decide) gives6 (hT.keep H40.kept)) (h := fun w48 H48 k47 => ?_)
      refine On ?_
      refine FL_val (Gives.not rfl) rfl ?_
      refine Pf ?_
      refine Mv ?_
      refine FL_split (t := 35) rfl (fun hs52 => ?_) (fun hs52 => ?_)
      ·exact Bool.noConfusion hs52
      ·refine On ?_
       refine FL_val (Gives.build (out := cellCells ⟨false, 0, []⟩) Fills.nil) rfl ?_
       refine On ?_
       refine FL_callQ H48 (gives_ok tx7 3 false ⟨false, 0, []⟩ 50 (by decide) gives7 (hT.keep H48.kept)) (h := fun w56 H56 k55 => ?_)
       refine On ?_
       refine FL_val (Gives.not rfl) rfl ?_
       refine Pf ?_
       refine Mv ?_
       refine FL_split (t := 40) rfl (fun hs60 => ?_) (fun hs60 => ?_)
       ·exact Bool.noConfusion hs60
       ·refine On ?_
        refine FL_val (Gives.build (out := cellCells ⟨false, 0, []⟩) Fills.nil) rfl ?_
        refine On ?_
        refine FL_callQ H56 (gives_ok tx8 1 false ⟨false, 0, []⟩ 50 (by decide) gives8 (hT.keep H56.kept)) (h := fun w64 H64 k63 => ?_)
        refine On ?_
        refine FL_val (Gives.not rfl) rfl ?_
        refine Pf ?_
        refine Qn ?_
        refine FW_cond rfl (fun hc67 => ?_) (fun hc67 => ?_)
        ·exact Bool.noConfusion hc67
        ·refine Sk ?_
         refine FW_seq ?_
         refine Sr ?_
         refine FL_callQ H64 (none_ok nx1 (by decide) none1 (hT.keep H64.kept)) (h := fun w70 H70 k69 => ?_)
         refine FL_val (Gives.not rfl) rfl ?_
         refine Mv ?_
         refine FL_split (t := 47) rfl (fun hs73 => ?_) (fun hs73 => ?_)
         ·exact Bool.noConfusion hs73
         ·refine On ?_
          refine FL_callQ H70 (none_ok nx2 (by decide) none2 (hT.keep H70.kept)) (h := fun w76 H76 k75 => ?_)
          refine On ?_
          refine FL_val (Gives.not rfl) rfl ?_
          refine Pf ?_
          refine Mv ?_
          refine FL_split (t := 51) rfl (fun hs80 => ?_) (fun hs80 => ?_)
          ·exact Bool.noConfusion hs80
          ·refine On ?_
           refine FL_callQ H76 (none_ok nx3 (by decide) none3 (hT.keep H76.kept)) (h := fun w83 H83 k82 => ?_)
           refine On ?_
           refine FL_val (Gives.not rfl) rfl ?_
           refine Pf ?_
           refine Mv ?_
           refine FL_split (t := 55) rfl (fun hs87 => ?_) (fun hs87 => ?_)
           ·exact Bool.noConfusion hs87
           ·refine On ?_
            refine FL_callQ H83 (none_ok nx4 (by decide) none4 (hT.keep H83.kept)) (h := fun w90 H90 k89 => ?_)
            refine On ?_
            refine FL_val (Gives.not rfl) rfl ?_
            refine Pf ?_
            refine Mv ?_
            refine FL_split (t := 59) rfl (fun hs94 => ?_) (fun hs94 => ?_)
            ·exact Bool.noConfusion hs94
            ·refine On ?_
             refine FL_callQ H90 (none_ok nx5 (by decide) none5 (hT.keep H90.kept)) (h := fun w97 H97 k96 => ?_)
             refine On ?_
             refine FL_val (Gives.not rfl) rfl ?_
             refine Pf ?_
             refine Mv ?_
             refine FL_split (t := 63) rfl (fun hs101 => ?_) (fun hs101 => ?_)
             ·exact Bool.noConfusion hs101
             ·refine On ?_
              refine FL_val (Gives.build (out := stepCells ⟨1, 3, []⟩) (Fills.one rfl rfl rfl (by simp) rfl (Fills.one rfl rfl rfl (by simp) rfl Fills.nil))) rfl ?_
              refine On ?_
              refine FL_val (Gives.build (out := stepCells ⟨1, 1, []⟩) (Fills.one rfl rfl rfl (by simp) rfl (Fills.one rfl rfl rfl (by simp) rfl Fills.nil))) rfl ?_
              refine On ?_
              refine FL_val (Gives.build (out := stepCells ⟨1, 1, []⟩) (Fills.one rfl rfl rfl (by simp) rfl (Fills.one rfl rfl rfl (by simp) rfl Fills.nil))) rfl ?_
              refine On ?_
              refine FL_val (Gives.build (out := stepCells ⟨7, 0, []⟩) (Fills.one rfl rfl rfl (by simp) rfl Fills.nil)) rfl ?_
              refine On ?_
              refine FL_val (Gives.build (out := stepCells ⟨1, 9, []⟩) (Fills.one rfl rfl rfl (by simp) rfl (Fills.one rfl rfl rfl (by simp) rfl Fills.nil))) rfl ?_
              refine On ?_
              refine FL_buildSlice H97 (xs := [.tmp 64, .tmp 65, .tmp 66, .tmp 67, .tmp 68]) (out := useL.flatMap stepCells) (Elems.many rfl rfl (Elems.many rfl rfl (Elems.many rfl rfl (Elems.many rfl rfl (Elems.many rfl rfl Elems.nil))))) rfl rfl rfl (fun ba w109 H109 k108 => ?_)
              refine On ?_
              refine FL_call (usesE_ok (l := useL) ⟨some ⟨ba, 0, none⟩, 5, rfl, ⟨Nat.le_refl _, by decide⟩, Sep.blkRow H109 At0 rfl⟩ (by decide)) rfl rfl (fun v' w111 hv => ?_)
              obtain ⟨x, rfl, _, hkk, F1, hq, hsub⟩ := hv
              have H111 := H109.new hkk hq (fun b hb => (hsub b hb).resolve_left id)
              obtain ⟨B, cb, rfl, hcb, hB⟩ := Sep.formD H111 At0
              refine On ?_
              refine FL_buildSlice H111 (xs := [_, _, _]) (out := [1, 3, 9].flatMap intCells) (Elems.one rfl rfl (Elems.one rfl rfl (Elems.one rfl rfl Elems.nil))) rfl rfl rfl (fun bb w113 H113 k112 => ?_)
              refine On ?_
              refine FL_callQ H113 (intsEq_ok (a := usesS useL) (b := [1, 3, 9]) ⟨B, cb, rfl, ⟨hcb, Sep.capD H113 At1⟩, Sep_rdD H113 At1⟩ ⟨some ⟨bb, 0, none⟩, 3, rfl, ⟨Nat.le_refl _, by decide⟩, Sep.blkRow H113 At0 rfl⟩) (h := fun w115 H115 k114 => ?_)
              rw [decide_eq_true use_eq]
              refine On ?_
              refine FL_val (Gives.not rfl) rfl ?_
              refine Pf ?_
              refine Qn ?_
              refine FW_cond rfl (fun hc118 => ?_) (fun hc118 => ?_)
              ·exact Bool.noConfusion hc118
              ·refine Sk ?_
               refine Sr ?_
               refine FL_buildSlice H115 (xs := [_, _, _, _, _, _]) (out := badW.flatMap textCells) (Elems.one rfl rfl (Elems.one rfl rfl (Elems.one rfl rfl (Elems.one rfl rfl (Elems.one rfl rfl (Elems.one rfl rfl Elems.nil)))))) rfl rfl rfl (fun bd w121 H121 k120 => ?_)
               refine Am ?_
               refine Qn ?_
               refine FW_seq ?_
               refine Sr ?_
               refine Am ?_
               refine Qn ?_
               refine FW_block ?_
               refine FW_loop' (fun i : Nat => [(2, .slice (some ⟨bd, 0, none⟩) 6 6), (3, I i)]) (fun i w' => i ≤ 6 ∧ Sep w noB [blk bd (badW.flatMap textCells) 9] w') (fun i _ => 6 - i) 0 ⟨rfl, rfl, trivial⟩ ⟨Nat.zero_le _, H121.first⟩ (fun i τ w125 hI => ?_)
               obtain ⟨hi, H125⟩ := hI
               try simp only [upds, like, upd_ds, und_ds]
               refine FW_seq ?_
               refine Sr ?_
               refine Mv ?_
               refine Mv ?_
               refine Vs ?_
               refine Vl ?_
               refine Qn ?_
               refine FW_condP rfl (fun hc130 => ?_) (fun hc130 => ?_)
               ·have hlt : i < badW.length := by show i < 6; omega
                obtain ⟨x, hx⟩ := get_some hlt
                obtain ⟨hpx, hxl⟩ := bad_parse x (List.mem_of_getElem? hx)
                have hRb : Rd w125 (some ⟨bd, 0, none⟩) textCells 1 badW := Sep.blkRow H125 At0 rfl
                refine Sk ?_
                refine FW_seq ?_
                refine FW_block ?_
                refine Sr ?_
                refine Mv ?_
                refine Mv ?_
                refine FL_val (Gives.idxR (l := badW) (enc := textCells) rfl rfl hRb hlt) rfl ?_
                refine FL_val (Gives.loadW (f := 0) rfl hRb hx rfl) rfl ?_
                refine FL_call (parseE_ok x (.inl (by omega)) (by omega) (hT.keep H125.kept)) rfl rfl (fun v' w137 hv => ?_)
                obtain ⟨y, rfl, _, hkk, F1, hq, hsub⟩ := hv
                have H137 := H125.new hkk hq (fun b hb => (hsub b hb).resolve_left id)
                rw [hpx] at H137
                obtain ⟨B2, cb2, rfl, hcb2, hB2⟩ := Sep.formD H137 At0
                rw [hpx]
                refine Mv ?_
                refine Vx ?_
                refine Vx ?_
                refine Am ?_
                refine Am ?_
                refine Nx ?_
                refine Mv ?_
                refine Vn ?_
                refine Mv ?_
                refine FL_splitP (t := 92) rfl (fun hs146 => ?_) (fun hs146 => ?_)
                ·exact (hs146 (by first | trivial | rfl)).elim
                ·refine On ?_
                 refine Mv ?_
                 refine On ?_
                 refine Vs ?_
                 refine On ?_
                 refine Vn ?_
                 refine Pf ?_
                 refine Qn ?_
                 refine FW_condP rfl (fun hc152 => ?_) (fun hc152 => ?_)
                 ·exact (hc152 (by first | trivial | rfl)).elim
                 ·refine FW_skip (Qblk_normal (Qseq_normal ?_))
                  refine FW_region ?_
                  refine Mv ?_
                  refine FL_val (Gives.addI (c := ((i + 1 : Nat) : Int)) rfl rfl (by omega) (by omega)) rfl ?_
                  refine Am ?_
                  refine FL_nil ?_
                  exact Qround_normal (i + 1) ⟨rfl, rfl, trivial⟩ ⟨by omega, H137.front1.first⟩ (by omega)
               ·refine FW_exit (Qseq_exit (Qround_exit (Qblk_exit (Qseq_normal ?_))))
                refine Sr ?_
                refine Am ?_
                refine Qn ?_
                refine FW_ret (Qfn_ret (hR := ?_))
                exact ⟨rfl, H125.kept⟩
end
end Go.Proofs.YtmkaahkbhdlniaaGreatDoor
/-
 Cells of rows that are owned are written; the law's cuts of its arguments, walked.
-/
namespace Go.Mw
open Go.RowKit
section
variable {P : Program} {r : Option Nat} {n : Nat} {ops : Array Oper} {Q : Post} {rest : List Oper} {σ : St} {w w₀ : World} {S : Nat → Prop} {rs : List HP} {put : HP → List HP} {ty : TypeId} {pos : String} {after : Array Edge}
variable {α : Type} {enc : α → List Value} {k e c : Nat} {l : List α} {A : Option Addr}
theorem Gives.minE {ρ : Operand → Value} {x y : Operand} {kd : IntKind} {a b m : Int} {ts : Array TypeId} (hx : ρ x = .int kd a) (hy : ρ y = .int kd b) (he : Min.min a b = m) : Gives P ρ (.call { callee := .builtin .min, args := #[x, y], argTypes := ts }) ty w (.int kd m) w := by subst he; exact Gives.min hx hy
end
end Go.Mw
namespace Go.Proofs.YtmkaahkbhdlniaaGreatDoor
open Go Go.Mw Go.Lib
set_option maxRecDepth 4000
section
variable {w : World}
end
end Go.Proofs.YtmkaahkbhdlniaaGreatDoor
/-
 The law ExprTexts, walked.
-/
namespace Go.Proofs.YtmkaahkbhdlniaaGreatDoor
open Go Go.Mw Go.Lib
set_option maxRecDepth 4000
theorem rowIn_own {α : Type} {enc : α → List Value} {k e c : Nat} [EncK enc k] {l : List α} {A : Option Addr} {w w₀ : World} {S : Nat → Prop} {rs : List HP} {put : HP → List HP} (H : Mw.Sep w₀ S rs w) (hat : At rs (rowD e k enc (.slice A l.length c) l) put) (hc : l.length ≤ c) : RowIn w (.slice A l.length c) enc k l :=
 ⟨A, c, rfl, ⟨hc, Sep.capD H hat⟩, Sep_rdD H hat⟩
section
variable {w : World}
end
end Go.Proofs.YtmkaahkbhdlniaaGreatDoor
/-
 The law ExprEvals, walked.
-/
namespace Go.Proofs.YtmkaahkbhdlniaaGreatDoor
open Go Go.Mw Go.Lib
set_option maxRecDepth 4000
section
variable {w : World}
end
end Go.Proofs.YtmkaahkbhdlniaaGreatDoor
/-
 The columns and rows of the statements on drawn expressions, and what such an expression gives, told plainly. No program stands here.
-/
namespace Go.Proofs.YtmkaahkbhdlniaaGreatDoor
open Go Go.Mw Go.Lib
set_option maxRecDepth 4000
def wholeK (b : Bool) : Int := if b then 3 else 2
def kindsS (b : Bool) : List Int := [wholeK b, 1, 4, 5, 3]
def kindAt (b : Bool) (i : Nat) : Int := (kindsS b).getD (i % 5) 0
def colAt (b : Bool) (i : Nat) : ColM := ⟨((i + 1 : Nat) : Int), [], ⟨kindAt b i, decide ((4 : Int) < i)⟩, cell0⟩
def colsS (b : Bool) : List ColM := (List.range 10).map (colAt b)
theorem runT_app (cols : List ColM) : ∀ (a b : List StepM) (st : List TypeM), runT cols st (a ++ b) = (runT cols st a).bind fun st => runT cols st b
 | [], _, _ => rfl
 | x :: a, b, st => by
  rw [List.cons_append, runT, runT]
  cases stepT cols st x with
  | none => rfl
  | some s => exact runT_app cols a b s
/-- Steps that put one cell of a type on any stack, in either columns. -/
structure GoodE (k : Int) (n : Bool) (l : List StepM) : Prop where
 may : ∀ x ∈ l, mayS x = true ∧ fits x.n
 run : ∀ b st, runT (colsS b) st l = some (st ++ [⟨k, n⟩])
theorem getD_app1 {α : Type} {l : List α} {a d : α} : (l ++ [a]).getD l.length d = a := by
 rw [List.getD_eq_getElem?_getD, List.getElem?_append_right (Nat.le_refl _), Nat.sub_self]; rfl
theorem getD_app2 {α : Type} {l : List α} {a b d : α} : (l ++ [a] ++ [b]).getD l.length d = a := by
 rw [List.getD_eq_getElem?_getD, List.append_assoc, List.getElem?_append_right (Nat.le_refl _), Nat.sub_self]; rfl
theorem take_app1 {α : Type} {l : List α} {a : α} : (l ++ [a]).take l.length = l := List.take_left' rfl
theorem take_app2 {α : Type} {l : List α} {a b : α} : (l ++ [a] ++ [b]).take l.length = l := by rw [List.append_assoc]; exact List.take_left' rfl
theorem good_leaf {x : StepM} {k : Int} {n : Bool} (hm : mayS x = true) (hf : fits x.n) (hk : x.kind < 7) (ht : ∀ b, leafT (colsS b) x = some ⟨k, n⟩) : GoodE k n [x] := by
 have h0 : takesS x.kind = 0 := takesS_zero'.2 hk
 refine ⟨fun y hy => by rw [List.mem_singleton.1 hy]; exact ⟨hm, hf⟩, fun b st => ?_⟩
 rw [runT, stepT_res' hm (by omega)]
 unfold resS
 rw [if_pos h0, ht, h0]
 simp only [Option.map_some, Option.bind_some, runT, Nat.sub_zero, List.take_length]
theorem may_app {a b : List StepM} {φ : StepM → Prop} (ha : ∀ x ∈ a, φ x) (hb : ∀ x ∈ b, φ x) : ∀ x ∈ a ++ b, φ x := fun x hx => (List.mem_append.1 hx).elim (ha x) (hb x)
theorem good_two {a b : List StepM} {x : StepM} {k1 k2 k : Int} {n1 n2 n : Bool} (ha : GoodE k1 n1 a) (hb : GoodE k2 n2 b) (hm : mayS x = true) (hf : fits x.n) (hk : takesS x.kind = 2) (ht : madeT x.kind ⟨k1, n1⟩ ⟨k2, n2⟩ = some ⟨k, n⟩) : GoodE k n (a ++ b ++ [x]) := by
 refine ⟨may_app (may_app ha.may hb.may) fun y hy => by rw [List.mem_singleton.1 hy]; exact ⟨hm, hf⟩, fun w st => ?_⟩
 have hl : (st ++ [(⟨k1, n1⟩ : TypeM)] ++ [(⟨k2, n2⟩ : TypeM)]).length = st.length + 2 := by simp
 rw [runT_app, runT_app, ha.run, Option.bind_some, hb.run, Option.bind_some, runT, stepT_res' hm (by omega)]
 unfold resS
 rw [if_neg (by omega), hk, hl, Nat.add_sub_cancel]
 have e2 : st.length + 2 - 1 = (st ++ [(⟨k1, n1⟩ : TypeM)]).length := by simp
 rw [e2, getD_app1, getD_app2, ht, take_app2]
 rfl
theorem good_one {a : List StepM} {x : StepM} {k1 k : Int} {n1 n : Bool} (ha : GoodE k1 n1 a) (hm : mayS x = true) (hf : fits x.n) (hk : takesS x.kind = 1) (ht : madeT x.kind ⟨k1, n1⟩ ⟨k1, n1⟩ = some ⟨k, n⟩) : GoodE k n (a ++ [x]) := by
 refine ⟨may_app ha.may fun y hy => by rw [List.mem_singleton.1 hy]; exact ⟨hm, hf⟩, fun w st => ?_⟩
 have hl : (st ++ [(⟨k1, n1⟩ : TypeM)]).length = st.length + 1 := by simp
 rw [runT_app, ha.run, Option.bind_some, runT, stepT_res' hm (by omega)]
 unfold resS
 rw [if_neg (by omega), hk, hl, Nat.add_sub_cancel, getD_app1, ht, take_app1]
 rfl
/-- A row for the first of these columns. -/
structure RowTo (m : Nat) (r : List CellM) : Prop where
 len : r.length = m
 fit : RowFits r
 ok : ∀ b (i : Nat) c, r[i]? = some c → okC (colAt b i).type c
theorem RowTo.nil : RowTo 0 [] := ⟨rfl, fun _ h => absurd h List.not_mem_nil, fun _ i c h => by simp at h⟩
theorem RowTo.push {i : Nat} {r : List CellM} {c : CellM} (h : RowTo i r) (hc : fits c.n ∧ ∀ b, okC (colAt b i).type c) : RowTo (i + 1) (r ++ [c]) := by
 refine ⟨by rw [List.length_append, h.len]; rfl, fun y hy => ?_, fun b j d hd => ?_⟩
 ·rcases List.mem_append.1 hy with h1 | h1
  ·exact h.fit y h1
  ·rw [List.mem_singleton.1 h1]; exact hc.1
 ·rcases Nat.lt_or_ge j r.length with hj | hj
  ·rw [List.getElem?_append_left hj] at hd; exact h.ok b j d hd
  ·rw [List.getElem?_append_right hj] at hd
   cases hk : j - r.length with
   | zero =>
    rw [hk] at hd
    have e : j = i := by have := h.len; omega
    simp only [List.getElem?_cons_zero, Option.some.injEq] at hd
    rw [e, ← hd]; exact hc.2 b
   | succ m => rw [hk] at hd; simp at hd
theorem eval_fits {k : Int} {n : Bool} {l : List StepM} (h : GoodE k n l) : ∀ x ∈ l, fits x.n := fun x hx => (h.may x hx).2
/-! Wider columns, and cells that are not used. -/
/-! Expressions one behind the other. -/
/-! What is drawn: of a kind, and so deep. -/
def Drawn (k : Int) (d : Nat) (l : List StepM) : Prop := (∃ n, GoodE k n l) ∧ 0 < l.length ∧ l.length + 1 ≤ 2 ^ (5 - d)
def kind4 (k : Int) : Prop := k = 1 ∨ k = 3 ∨ k = 4 ∨ k = 5
theorem drawn_leaf {k : Int} {d : Nat} {x : StepM} {n : Bool} (hd : d ≤ 4) (h : GoodE k n [x]) : Drawn k d [x] :=
 ⟨⟨n, h⟩, Nat.zero_lt_succ _, Nat.le_trans (show 2 ≤ 2 ^ 1 by decide) (Nat.pow_le_pow_right (by decide) (by omega))⟩
theorem drawn_two {k1 k2 k : Int} {d : Nat} {a b : List StepM} {s : Int} (hd : d ≤ 3) (ha : Drawn k1 (d + 1) a) (hb : Drawn k2 (d + 1) b) (hm : mayS ⟨s, 0, []⟩ = true) (hk : takesS s = 2) (ht : ∀ n1 n2, ∃ n, madeT s ⟨k1, n1⟩ ⟨k2, n2⟩ = some ⟨k, n⟩) : Drawn k d (a ++ b ++ [⟨s, 0, []⟩]) := by
 obtain ⟨⟨n1, h1⟩, l1, m1⟩ := ha
 obtain ⟨⟨n2, h2⟩, l2, m2⟩ := hb
 obtain ⟨n, hn⟩ := ht n1 n2
 refine ⟨⟨n, good_two h1 h2 hm (by unfold fits; dsimp only; omega) hk hn⟩, by simp only [List.length_append, List.length_cons, List.length_nil]; omega, ?_⟩
 have e : 5 - d = (5 - (d + 1)) + 1 := by omega
 rw [e, Nat.pow_succ]
 simp only [List.length_append, List.length_cons, List.length_nil]
 omega
theorem drawn_one {k1 k : Int} {d : Nat} {a : List StepM} {s : Int} (hd : d ≤ 3) (ha : Drawn k1 (d + 1) a) (hm : mayS ⟨s, 0, []⟩ = true) (hk : takesS s = 1) (ht : ∀ n1, ∃ n, madeT s ⟨k1, n1⟩ ⟨k1, n1⟩ = some ⟨k, n⟩) : Drawn k d (a ++ [⟨s, 0, []⟩]) := by
 obtain ⟨⟨n1, h1⟩, l1, m1⟩ := ha
 obtain ⟨n, hn⟩ := ht n1
 refine ⟨⟨n, good_one h1 hm (by unfold fits; dsimp only; omega) hk hn⟩, by simp only [List.length_append, List.length_cons, List.length_nil]; omega, ?_⟩
 have e : 5 - d = (5 - (d + 1)) + 1 := by omega
 rw [e, Nat.pow_succ]
 simp only [List.length_append, List.length_cons, List.length_nil]
 omega
end Go.Proofs.YtmkaahkbhdlniaaGreatDoor
/-
 What a step that takes two makes of two cells, by halves of numbers, told plainly. No program stands here.
-/
namespace Go.Proofs.YtmkaahkbhdlniaaGreatDoor
open Go Go.Mw Go.Lib
set_option maxRecDepth 4000
end Go.Proofs.YtmkaahkbhdlniaaGreatDoor
/-
 The known expressions' columns and rows, walked.
-/
namespace Go.Proofs.YtmkaahkbhdlniaaGreatDoor
open Go Go.Mw Go.Lib
set_option maxRecDepth 4000
theorem bring_eq {k m : Int} (hm : 0 < m) : k % m = if k.tmod m < 0 then k.tmod m + m else k.tmod m := by
 have h := Int.mul_tdiv_add_tmod k m
 have h1 := Int.tmod_lt_of_pos k hm
 have h2 := Int.lt_tmod_of_pos k hm
 have e : k % m = (k.tmod m) % m := by
  have := Int.mul_add_emod_self_left m (k.tdiv m) (k.tmod m)
  rw [h] at this
  exact this
 rw [e]
 split
 ·rw [← Int.add_emod_right]; exact Int.emod_eq_of_lt (by omega) (by omega)
 ·exact Int.emod_eq_of_lt (by omega) (by omega)
section
variable {w : World}
theorem bring_ok {k m : Int} (h0 : 0 < m) (hm : m ≤ 4294967296) : Rets Tryz.prog 32 [I k, I m] w fun v w' => v = I (k % m) ∧ Kept noB w w' := by
 have H := Sep.start0 w
 have h1 := Int.tmod_lt_of_pos k h0
 have h2 := Int.lt_tmod_of_pos k h0
 have he := bring_eq (k := k) h0
 refine rets2 Tryz.func32 rfl rfl rfl rfl ?_
 refine Sr ?_
 refine Am ?_
 refine Nx ?_
 refine Mv ?_
 refine Mv ?_
 refine FL_val (Gives.rem rfl rfl (by omega)) rfl ?_
 refine Am ?_
 refine Qn ?_
 refine FW_seq ?_
 refine Sr ?_
 refine Mv ?_
 refine Vl ?_
 refine Qn ?_
 refine FW_condP rfl (fun hc8 => ?_) (fun hc8 => ?_)
 ·refine FW_region ?_
  refine Mv ?_
  refine Mv ?_
  refine FL_val (Gives.addI (c := k.tmod m + m) rfl rfl rfl (by omega)) rfl ?_
  refine Am ?_
  refine Nx ?_
  refine Mv ?_
  refine Am ?_
  refine Qn ?_
  refine FW_ret (Qfn_ret (hR := ?_))
  exact ⟨by rw [he]; first | (rw [if_pos (by assumption)]; rfl) | (rw [if_neg (by assumption)]; rfl), H.kept⟩
 ·refine Sk ?_
  refine Sr ?_
  refine Mv ?_
  refine Am ?_
  refine Qn ?_
  refine FW_ret (Qfn_ret (hR := ?_))
  exact ⟨by rw [he]; first | (rw [if_pos (by assumption)]; rfl) | (rw [if_neg (by assumption)]; rfl), H.kept⟩
end
end Go.Proofs.YtmkaahkbhdlniaaGreatDoor
/-
 Drawn expressions: the numbers, and the steps that are drawn of them, walked.
-/
namespace Go.Mw
open Go.RowKit
section
variable {P : Program} {r : Option Nat} {n : Nat} {ops : Array Oper} {Q : Post} {rest : List Oper} {σ : St} {w w₀ : World} {S : Nat → Prop} {rs : List HP} {put : HP → List HP} {ty : TypeId} {pos : String} {after : Array Edge} {p q : HP}
/-- A call that turns one piece and looks at the front one. -/
theorem FL_callR {d : Nat} {f : FuncId} {xs : List Operand} {ats : Array TypeId} {vals : List Value} {α : Type} {val : α → Value} {φ : α → Prop} {q' : α → HP} [he : Enters P f] (H : Sep w₀ S (q :: rs) w) (hat : At rs p put)
    (hc : ∀ F Fq, p.ok F w → (∀ b, F b → S b ∨ w₀.heap.size ≤ b) → (∀ w', Kept F w w' → q.ok Fq w') → Rets P f vals w fun v w' => ∃ x, v = val x ∧ φ x ∧ Turn F (q' x) w w') (hv : xs.map (evF σ) = vals := by exact rfl) (hd : Nat.blt d n = true := by exact rfl)
    (h : ∀ x w', φ x → Sep w₀ S (q :: put (q' x)) w' → FL P r n ops Q rest (upd σ d (val x)) w') :
    FL P r n ops Q ({ dst := some d, op := .call { callee := .value (.func f), args := xs.toArray, argTypes := ats }, type := ty, pos := pos, after := after, guard := none } :: rest) σ w := by
  obtain ⟨F, Fq, hp, hq, hdis, hS, hput⟩ := H.focus1 hat
  refine FL_call (hc F Fq hp hS (fun w' hk => q.loc hk.size (fun b hb => hk.block b (q.low hq b hb) (hdis b hb)) hq)) hv hd (fun v w' hR => ?_)
  obtain ⟨x, rfl, hφ, hk, F', hq', hsub⟩ := hR
  exact h x w' hφ (hput w' F' _ hk hq' hsub)
end
end Go.Mw
namespace Go.Proofs.YtmkaahkbhdlniaaGreatDoor
open Go Go.Mw Go.Lib
set_option maxRecDepth 4000
abbrev seedB (b : Nat) (v : Value) : HP := blk b [v] 46
/-- What is left of a row of numbers. -/
def SufV (v v' : Value) : Prop := ∀ (w : World) ns, RowIn w v intCells 1 ns → ∃ ns', RowIn w v' intCells 1 ns'
theorem SufV.refl (v : Value) : SufV v v := fun _ ns h => ⟨ns, h⟩
theorem SufV.trans {a b c : Value} (h : SufV a b) (k : SufV b c) : SufV a c := fun w ns h1 => let ⟨ns', h2⟩ := h w ns h1; k w ns' h2
theorem sufV_tail {A : Option Addr} {n c : Nat} (h : 0 < n) : SufV (.slice A n c) (.slice (if c = 1 then A else A.map (·.add (1 * 1))) (n - 1) (c - 1)) := by
 intro w ns h1
 obtain ⟨A', c', e, ⟨h1, h2⟩, hR⟩ := h1
 injection e with e1 e2 e3
 subst e1 e2 e3
 have := row_from hR h1 h2 (j := ns.length - 1) (by omega)
 rw [show ns.length - (ns.length - 1) = 1 by omega] at this
 exact ⟨_, this⟩
/-- A row of numbers that no turn of F changes. -/
def SeedAt (F : Nat → Prop) (w : World) (v : Value) : Prop := ∀ w', Kept F w w' → ∃ ns, RowIn w' v intCells 1 ns
theorem SeedAt.go {F F' : Nat → Prop} {w w' : World} {v : Value} (h : SeedAt F w v) (hk : Kept F w w') (hF : ∀ b, F' b → F b ∨ w.heap.size ≤ b) : SeedAt F' w' v := fun _ hk' => h _ (hk.trans hk' hF)
theorem SeedAt.suf {F : Nat → Prop} {w : World} {v v' : Value} (h : SeedAt F w v) (hs : SufV v v') : SeedAt F w v' := fun w' hk => let ⟨ns, h1⟩ := h w' hk; hs w' ns h1
def kindOf (k : Int) : Int := ([1, 3, 4, 5] : List Int).getD (k % 4).toNat 0
theorem kindOf_in (k : Int) : kind4 (kindOf k) := by
 unfold kindOf kind4
 have h : k % 4 = 0 ∨ k % 4 = 1 ∨ k % 4 = 2 ∨ k % 4 = 3 := by omega
 rcases h with h | h | h | h <;> rw [h] <;> decide
def leafNums : List Int := [0, 2, 0, 0, 3, 4]
def wholeCols : List Int := [1, 5, 6, 10]
def wholeNums : List Int := [0, 1, -1, 3, 9223372036854775807, -9223372036854775808, 4294967296]
def leafWords : List (List UInt8) := [[], [97], [97, 32, 98], [195, 164], [34, 10]]
def leafBytes : List (List UInt8) := [[], [0], [255, 32, 97]]
/-- A step that puts a value of a kind. -/
def LeafE (k : Int) (x : StepM) : Prop := ∃ n, GoodE k n [x]
theorem leafE {k : Int} {x : StepM} (n : Bool) (hm : mayS x = true) (hf : fits x.n) (hk : x.kind < 7) (ht : ∀ b, leafT (colsS b) x = some ⟨k, n⟩) : LeafE k x := ⟨n, good_leaf hm hf hk ht⟩
theorem leaf_col {k i : Int} (h : (k = 1 ∧ (i = 2 ∨ i = 7)) ∨ (k = 4 ∧ (i = 3 ∨ i = 8)) ∨ (k = 5 ∧ (i = 4 ∨ i = 9)) ∨ (k = 3 ∧ (i = 1 ∨ i = 5 ∨ i = 6 ∨ i = 10))) : LeafE k ⟨1, i, []⟩ := by
 have key : ∀ k i : Int, (∀ b, leafT (colsS b) ⟨1, i, []⟩ = some ⟨k, decide (5 < i)⟩) → mayS ⟨1, i, []⟩ = true → fits i → LeafE k ⟨1, i, []⟩ := fun k i h1 h2 h3 => leafE _ h2 h3 (by dsimp only; omega) h1
 rcases h with ⟨rfl, h⟩ | ⟨rfl, h⟩ | ⟨rfl, h⟩ | ⟨rfl, h⟩
 ·rcases h with rfl | rfl <;> exact key _ _ (by decide +kernel) (by decide) (by unfold fits; decide)
 ·rcases h with rfl | rfl <;> exact key _ _ (by decide +kernel) (by decide) (by unfold fits; decide)
 ·rcases h with rfl | rfl <;> exact key _ _ (by decide +kernel) (by decide) (by unfold fits; decide)
 ·rcases h with rfl | rfl | rfl | rfl <;> exact key _ _ (by decide +kernel) (by decide) (by unfold fits; decide)
theorem leaf_null {k : Int} (h : kind4 k) : LeafE k ⟨6, k, []⟩ := by
 rcases h with rfl | rfl | rfl | rfl <;> exact leafE true (by decide) (by unfold fits; decide) (by decide) (by decide +kernel)
theorem leaf_num {n : Int} (h : fits n) : LeafE 3 ⟨2, n, []⟩ := leafE false rfl h (by dsimp only; omega) (fun _ => rfl)
theorem leaf_bool {n : Int} (h : 0 ≤ n ∧ n ≤ 1) : LeafE 1 ⟨3, n, []⟩ := leafE false (by simp [mayS, h]) (by unfold fits; dsimp only; omega) (by dsimp only; omega) (fun _ => rfl)
theorem leaf_text {s : List UInt8} (h : s ∈ leafWords) : LeafE 4 ⟨4, 0, s⟩ := by
 have key : ∀ s ∈ leafWords, mayS ⟨4, 0, s⟩ = true := by decide +kernel
 exact leafE false (key s h) (by unfold fits; dsimp only; omega) (by dsimp only; omega) (fun _ => rfl)
theorem leaf_bytes {s : List UInt8} (h : s ∈ leafBytes) : LeafE 5 ⟨5, 0, s⟩ := by
 have key : ∀ s ∈ leafBytes, mayS ⟨5, 0, s⟩ = true := by decide +kernel
 exact leafE false (key s h) (by unfold fits; dsimp only; omega) (by dsimp only; omega) (fun _ => rfl)
section
variable {w : World} {F : Nat → Prop} {b : Nat} {v0 : Value}
theorem seedNext_ok {m : Int} (hp : (seedB b v0).ok F w) (hs : SeedAt F w v0) (h0 : 0 < m) (hm : m ≤ 4294967296) :
    Rets Tryz.prog 107 [.pointer (some ⟨b, 0, none⟩), I m] w fun v w' => ∃ x : Int × Value, v = I x.1 ∧ ((0 ≤ x.1 ∧ x.1 < m) ∧ SufV v0 x.2) ∧ Turn F (seedB b x.2) w w' := by
  have H := Sep.start1 hp
  obtain ⟨ns, A, c, rfl, ⟨hc, hc'⟩, hR⟩ := hs w (Kept.refl F w)
  refine rets2 Tryz.func107 rfl rfl rfl rfl ?_
  refine Sr ?_
  refine Am ?_
  refine Qn ?_
  refine FW_seq ?_
  refine Sr ?_
  refine Mv ?_
  refine FL_val (Gives.nilCheck rfl) rfl ?_
  refine Vf ?_
  refine Ld H ?_
  refine Vs ?_
  refine Ve ?_
  refine Qn ?_
  refine FW_condP rfl (fun hc8 => ?_) (fun hc8 => ?_)
  · refine Sr ?_
    refine Am ?_
    refine Qn ?_
    refine Rs (Qfn_ret (hR := ?_))
    exact ⟨(0, _), rfl, ⟨⟨by omega, h0⟩, SufV.refl _⟩, H.turn⟩
  · have hlt : 0 < ns.length := by omega
    obtain ⟨y, hy⟩ := get_some hlt
    refine Sk ?_
    refine Sr ?_
    refine Mv ?_
    refine FL_val (Gives.nilCheck rfl) rfl ?_
    refine Vf ?_
    refine Ld H ?_
    refine FL_val (Gives.idxR (l := ns) (i := 0) (enc := intCells) rfl rfl hR hlt) rfl ?_
    refine FL_val (Gives.loadW (i := 0) (f := 0) rfl hR hy rfl) rfl ?_
    refine Mv ?_
    refine FL_callQ H (bring_ok (k := y) h0 hm) (h := fun w20 H20 k19 => ?_)
    refine Am ?_
    refine Nx ?_
    refine Mv ?_
    refine Mv ?_
    refine FL_val (Gives.nilCheck rfl) rfl ?_
    refine Vf ?_
    refine Ld H20 ?_
    refine FL_val (Gives.sliceFrom (l := 1) rfl rfl hlt) rfl ?_
    refine FL_val (Gives.nilCheck rfl) rfl ?_
    refine Vf ?_
    refine FL_store H20 (h := ?_)
    intro w31 H31
    refine Nx ?_
    refine Mv ?_
    refine Am ?_
    refine Qn ?_
    refine FW_ret (Qfn_ret (hR := ?_))
    exact ⟨(y % m, _), rfl, ⟨⟨Int.emod_nonneg _ (by omega), Int.emod_lt_of_pos _ h0⟩, sufV_tail hlt⟩, H31.turn⟩
theorem seedWhole_ok (hp : (seedB b v0).ok F w) (hs : SeedAt F w v0) :
    Rets Tryz.prog 108 [.pointer (some ⟨b, 0, none⟩)] w fun v w' => ∃ x : StepM × Value, v = agg (stepCells x.1) ∧ (LeafE 3 x.1 ∧ SufV v0 x.2) ∧ Turn F (seedB b x.2) w w' := by
  have H := Sep.start1 hp
  refine retsC1 Tryz.func108 rfl rfl rfl rfl ?_
  refine Sr ?_
  refine FL_alloc H (h := ?_)
  intro b1 w2 H2 k1
  refine Qn ?_
  refine FW_seq ?_
  refine Sr ?_
  refine Mv ?_
  refine FL_callT H2 At1 (fun _ hp' hF => seedNext_ok (m := 4) hp' (hs.go H2.kept hF) (by decide) (by decide)) (h := fun x1 w5 hx H5 => ?_)
  obtain ⟨r1, v1⟩ := x1
  obtain ⟨hr1, u1⟩ := hx
  have hs1 := hs.suf u1
  dsimp only at hr1 u1 hs1 H5 ⊢
  refine Qn ?_
  refine FW_block ?_
  refine Sr ?_
  refine Ve ?_
  refine Am ?_
  refine Qn ?_
  refine FW_condP rfl (fun hc8 => ?_) (fun hc8 => ?_)
  · refine Sr ?_
    refine FL_buildSlice H5 (xs := [_, _, _, _]) (out := wholeCols.flatMap intCells) (Elems.one rfl rfl (Elems.one rfl rfl (Elems.one rfl rfl (Elems.one rfl rfl Elems.nil)))) rfl rfl rfl (fun bk w10 H10 k9 => ?_)
    refine Mv ?_
    refine FL_callT H10 At2 (fun _ hp' hF => seedNext_ok (m := 4) hp' (hs1.go H10.kept hF) (by decide) (by decide)) (h := fun x2 w13 hx H13 => ?_)
    obtain ⟨r2, v2⟩ := x2
    obtain ⟨hr2, u2⟩ := hx
    dsimp only at hr2 u2 H13 ⊢
    obtain ⟨q, hq⟩ : ∃ q : Nat, r2 = q := ⟨r2.toNat, by omega⟩
    subst hq
    have hlt : q < wholeCols.length := by show q < 4; omega
    obtain ⟨y, hy⟩ := get_some hlt
    have hRb : Rd w13 (some ⟨bk, 0, none⟩) intCells 1 wholeCols := Sep.blkRow H13 At0 rfl
    refine FL_val (Gives.idxR (l := wholeCols) (enc := intCells) rfl rfl hRb hlt) rfl ?_
    refine FL_val (Gives.loadW (f := 0) rfl hRb hy rfl) rfl ?_
    have H17 := H13.drop0
    refine FL_val (Gives.build (out := stepCells ⟨1, y, []⟩) (Fills.one rfl rfl rfl (by simp) rfl (Fills.one rfl rfl rfl (by simp) rfl Fills.nil))) rfl ?_
    refine FL_storeAll H17 (h := ?_)
    intro w19 H19
    refine Qn ?_
    refine Rb (QfnC_ret (h := ?_))
    exact ⟨_, resC1 H19, (_, _), rfl, ⟨leaf_col (.inr (.inr (.inr ⟨rfl, by have := List.mem_of_getElem? hy; simpa [wholeCols] using this⟩))), u1.trans u2⟩, H19.drop0.turn⟩
  · refine Sr ?_
    refine Ve ?_
    refine Am ?_
    refine Qn ?_
    refine FW_condP rfl (fun hc23 => ?_) (fun hc23 => ?_)
    · refine Sr ?_
      refine FL_val (Gives.build (out := stepCells ⟨6, 3, []⟩) (Fills.one rfl rfl rfl (by simp) rfl (Fills.one rfl rfl rfl (by simp) rfl Fills.nil))) rfl ?_
      refine FL_storeAll H5 (h := ?_)
      intro w26 H26
      refine Qn ?_
      refine Rb (QfnC_ret (h := ?_))
      exact ⟨_, resC1 H26, (_, _), rfl, ⟨leaf_null (.inr (.inl rfl)), u1⟩, H26.drop0.turn⟩
    · refine FW_skip (Qblk_normal (Qseq_normal ?_))
      refine Sr ?_
      refine FL_buildSlice H5 (xs := [_, _, _, _, _, _, _]) (out := wholeNums.flatMap intCells) (Elems.one rfl rfl (Elems.one rfl rfl (Elems.one rfl rfl (Elems.one rfl rfl (Elems.one rfl rfl (Elems.one rfl rfl (Elems.one rfl rfl Elems.nil))))))) rfl rfl rfl (fun bk w29 H29 k28 => ?_)
      refine Mv ?_
      refine FL_callT H29 At2 (fun _ hp' hF => seedNext_ok (m := 7) hp' (hs1.go H29.kept hF) (by decide) (by decide)) (h := fun x2 w32 hx H32 => ?_)
      obtain ⟨r2, v2⟩ := x2
      obtain ⟨hr2, u2⟩ := hx
      dsimp only at hr2 u2 H32 ⊢
      obtain ⟨q, hq⟩ : ∃ q : Nat, r2 = q := ⟨r2.toNat, by omega⟩
      subst hq
      have hlt : q < wholeNums.length := by show q < 7; omega
      obtain ⟨y, hy⟩ := get_some hlt
      have hRb : Rd w32 (some ⟨bk, 0, none⟩) intCells 1 wholeNums := Sep.blkRow H32 At0 rfl
      refine FL_val (Gives.idxR (l := wholeNums) (enc := intCells) rfl rfl hRb hlt) rfl ?_
      refine FL_val (Gives.loadW (f := 0) rfl hRb hy rfl) rfl ?_
      have H36 := H32.drop0
      have hy2 : fits y := by
        have key : ∀ y ∈ wholeNums, fits y := by unfold fits; decide
        exact key y (List.mem_of_getElem? hy)
      refine FL_val (Gives.build (out := stepCells ⟨2, y, []⟩) (Fills.one rfl rfl rfl (by simp) rfl (Fills.one rfl rfl rfl (by simp) rfl Fills.nil))) rfl ?_
      refine FL_storeAll H36 (h := ?_)
      intro w38 H38
      refine Qn ?_
      refine FW_ret (QfnC_ret (h := ?_))
      exact ⟨_, resC1 H38, (_, _), rfl, ⟨leaf_num hy2, u1.trans u2⟩, H38.drop0.turn⟩
theorem seedLeaf_ok {k : Int} (hk : k = 1 ∨ k = 4 ∨ k = 5) (hp : (seedB b v0).ok F w) (hs : SeedAt F w v0) :
    Rets Tryz.prog 109 [.pointer (some ⟨b, 0, none⟩), I k] w fun v w' => ∃ x : StepM × Value, v = agg (stepCells x.1) ∧ (LeafE k x.1 ∧ SufV v0 x.2) ∧ Turn F (seedB b x.2) w w' := by
  have H := Sep.start1 hp
  refine retsC2 Tryz.func109 rfl rfl rfl rfl ?_
  obtain ⟨kk, rfl⟩ : ∃ kk : Nat, k = kk := ⟨k.toNat, by omega⟩
  have hk6 : kk < leafNums.length := by show kk < 6; omega
  obtain ⟨z, hz⟩ := get_some hk6
  have hzk : ((kk : Int) = 1 ∧ z = 2) ∨ ((kk : Int) = 4 ∧ z = 3) ∨ ((kk : Int) = 5 ∧ z = 4) := by
    have h3 : kk = 1 ∨ kk = 4 ∨ kk = 5 := by omega
    rcases h3 with rfl | rfl | rfl <;> (simp [leafNums] at hz; omega)
  refine Sr ?_
  refine FL_alloc H (h := ?_)
  intro b1 w2 H2 k1
  refine Qn ?_
  refine FW_seq ?_
  refine Sr ?_
  refine Mv ?_
  refine FL_callT H2 At1 (fun _ hp' hF => seedNext_ok (m := 4) hp' (hs.go H2.kept hF) (by decide) (by decide)) (h := fun x1 w5 hx H5 => ?_)
  obtain ⟨r1, v1⟩ := x1
  obtain ⟨hr1, u1⟩ := hx
  have hs1 := hs.suf u1
  dsimp only at hr1 u1 hs1 H5 ⊢
  refine Qn ?_
  refine FW_block ?_
  refine Sr ?_
  refine Ve ?_
  refine Am ?_
  refine Qn ?_
  refine FW_condP rfl (fun hc8 => ?_) (fun hc8 => ?_)
  · refine FW_seq ?_
    refine FW_drawS rfl H5 (h := fun hok9 w11 H11 => ?_)
    refine FGmove hok9 1 (h := ?_)
    refine FGmove hok9 4 (h := ?_)
    refine FG_two hok9 (e1 := 0) (e2 := 5) (by kernel_rfl) ?_ ?_
    · refine step_buildSlice hok9 0 [(4, true), (1, true)] H11 (xs := [_, _, _, _, _, _]) (out := leafNums.flatMap intCells) (Elems.one rfl rfl (Elems.one rfl rfl (Elems.one rfl rfl (Elems.one rfl rfl (Elems.one rfl rfl (Elems.one rfl rfl Elems.nil)))))) (h := fun bk w13 H13 => ⟨Stab_pure (Stab_pure (Stab_nil)), ?_⟩)
      have hRb : Rd w13 (some ⟨bk, 0, none⟩) intCells 1 leafNums := Sep.blkRow H13 At0 rfl
      refine FGp hok9 2 rfl rfl (fun _ => Gives.idxR (l := leafNums) (enc := intCells) rfl rfl hRb hk6) (by kernel_rfl) ?_
      refine FGl hok9 3 rfl rfl (Gives.loadW (f := 0) rfl hRb hz rfl) (by kernel_rfl) ?_
      obtain ⟨F0, hp0, hS0, hput0⟩ := H13.focus At2
      refine FGcall hok9 5 [(3, false), (2, true), (1, true)] rfl (by kernel_rfl) (seedNext_ok (m := 2) hp0 (hs1.go H13.kept hS0) (by decide) (by decide)) rfl (by kernel_rfl) (by kernel_rfl) (fun v' w17 hv => ?_)
      obtain ⟨⟨r2, v2⟩, rfl, ⟨hr2, u2⟩, hk2, F2, hq2, hsub2⟩ := hv
      have H17 := hput0 _ F2 _ hk2 hq2 hsub2
      dsimp only at hr2 u2 H17 ⊢
      refine ⟨(Stab_cons rfl (by kernel_rfl) (Gives.loadW (f := 0) rfl (show Rd _ (some ⟨bk, 0, none⟩) intCells 1 leafNums from Sep.blkRow H17 At0 rfl) hz rfl) rfl (Stab_pure (Stab_pure (Stab_nil)))), ?_⟩
      refine FGp hok9 6 rfl rfl (fun _ => (Gives.mulI rfl rfl rfl (by omega))) (by kernel_rfl) ?_
      refine FGp hok9 7 rfl rfl (fun _ => (Gives.addI rfl rfl rfl (by omega))) (by kernel_rfl) ?_
      refine FGp hok9 8 rfl rfl (fun _ => Gives.build (out := stepCells ⟨1, z + 5 * r2, []⟩) (Fills.one rfl rfl rfl (by simp) rfl (Fills.one rfl rfl rfl (by simp) rfl Fills.nil))) (by kernel_rfl) ?_
      refine FGstoreAll hok9 9 [] H17 (h := fun w22 H22 => ⟨Stab_nil, ?_⟩)
      refine FG_end hok9 (by kernel_rfl) ?_
      refine Qseq_normal ?_
      refine Rb (QfnC_ret (h := ?_))
      exact ⟨_, resC1 H22, (_, _), rfl, ⟨leaf_col (by omega), u1.trans u2⟩, H22.drop0.drop0.turn⟩
    · obtain ⟨F0, hp0, hS0, hput0⟩ := H11.focus At1
      refine step_call hok9 5 [(1, true)] rfl (by kernel_rfl) (seedNext_ok (m := 2) hp0 (hs1.go H11.kept hS0) (by decide) (by decide)) rfl (by kernel_rfl) (by kernel_rfl) (fun v' w25 hv => ?_)
      obtain ⟨⟨r2, v2⟩, rfl, ⟨hr2, u2⟩, hk2, F2, hq2, hsub2⟩ := hv
      have H25 := hput0 _ F2 _ hk2 hq2 hsub2
      dsimp only at hr2 u2 H25 ⊢
      refine ⟨Stab_pure (Stab_nil), ?_⟩
      refine FGp hok9 6 rfl rfl (fun _ => (Gives.mulI rfl rfl rfl (by omega))) (by kernel_rfl) ?_
      refine FGbuildSlice hok9 0 [(6, true), (1, true)] H25 (xs := [_, _, _, _, _, _]) (out := leafNums.flatMap intCells) (Elems.one rfl rfl (Elems.one rfl rfl (Elems.one rfl rfl (Elems.one rfl rfl (Elems.one rfl rfl (Elems.one rfl rfl Elems.nil)))))) (h := fun bk w28 H28 => ⟨Stab_pure (Stab_pure (Stab_nil)), ?_⟩)
      have hRb : Rd w28 (some ⟨bk, 0, none⟩) intCells 1 leafNums := Sep.blkRow H28 At0 rfl
      refine FGp hok9 2 rfl rfl (fun _ => Gives.idxR (l := leafNums) (enc := intCells) rfl rfl hRb hk6) (by kernel_rfl) ?_
      refine FGl hok9 3 rfl rfl (Gives.loadW (f := 0) rfl hRb hz rfl) (by kernel_rfl) ?_
      refine FGp hok9 7 rfl rfl (fun _ => (Gives.addI rfl rfl rfl (by omega))) (by kernel_rfl) ?_
      refine FGp hok9 8 rfl rfl (fun _ => Gives.build (out := stepCells ⟨1, z + 5 * r2, []⟩) (Fills.one rfl rfl rfl (by simp) rfl (Fills.one rfl rfl rfl (by simp) rfl Fills.nil))) (by kernel_rfl) ?_
      refine FGstoreAll hok9 9 [] H28 (h := fun w34 H34 => ⟨Stab_nil, ?_⟩)
      refine FG_end hok9 (by kernel_rfl) ?_
      refine Qseq_normal ?_
      refine Rb (QfnC_ret (h := ?_))
      exact ⟨_, resC1 H34, (_, _), rfl, ⟨leaf_col (by omega), u1.trans u2⟩, H34.drop0.drop0.turn⟩
  · refine Sr ?_
    refine Ve ?_
    refine Am ?_
    refine Qn ?_
    refine FW_condP rfl (fun hc38 => ?_) (fun hc38 => ?_)
    · refine Sr ?_
      refine Mv ?_
      refine FL_val (Gives.build (out := stepCells ⟨6, kk, []⟩) (Fills.one rfl rfl rfl (by simp) rfl (Fills.one rfl rfl rfl (by simp) rfl Fills.nil))) rfl ?_
      refine FL_storeAll H5 (h := ?_)
      intro w42 H42
      refine Qn ?_
      refine Rb (QfnC_ret (h := ?_))
      exact ⟨_, resC1 H42, (_, _), rfl, ⟨leaf_null (by unfold kind4; omega), u1⟩, H42.drop0.turn⟩
    · refine FW_skip (Qblk_normal (Qseq_normal ?_))
      refine FW_seq ?_
      refine Sr ?_
      refine Mv ?_
      refine Qn ?_
      refine FW_block ?_
      refine Sr ?_
      refine Ve ?_
      refine Am ?_
      refine Qn ?_
      refine FW_condP rfl (fun hc47 => ?_) (fun hc47 => ?_)
      · have hk1 : (kk : Int) = 1 := hc47
        refine Sr ?_
        refine Mv ?_
        refine FL_callT H5 At1 (fun _ hp' hF => seedNext_ok (m := 2) hp' (hs1.go H5.kept hF) (by decide) (by decide)) (h := fun x2 w51 hx H51 => ?_)
        obtain ⟨r2, v2⟩ := x2
        obtain ⟨hr2, u2⟩ := hx
        dsimp only at hr2 u2 H51 ⊢
        refine FL_val (Gives.build (out := stepCells ⟨3, r2, []⟩) (Fills.one rfl rfl rfl (by simp) rfl (Fills.one rfl rfl rfl (by simp) rfl Fills.nil))) rfl ?_
        refine FL_storeAll H51 (h := ?_)
        intro w54 H54
        refine Qn ?_
        refine Rb (QfnC_ret (h := ?_))
        exact ⟨_, resC1 H54, (_, _), rfl, ⟨by rw [hk1]; exact leaf_bool (by omega), u1.trans u2⟩, H54.drop0.turn⟩
      · refine Sr ?_
        refine Ve ?_
        refine Am ?_
        refine Qn ?_
        refine FW_condP rfl (fun hc58 => ?_) (fun hc58 => ?_)
        · have hk4 : (kk : Int) = 4 := hc58
          refine Sr ?_
          refine FL_buildSlice H5 (xs := [_, _, _, _, _]) (out := leafWords.flatMap textCells) (Elems.one rfl rfl (Elems.one rfl rfl (Elems.one rfl rfl (Elems.one rfl rfl (Elems.one rfl rfl Elems.nil))))) rfl rfl rfl (fun bk w61 H61 k60 => ?_)
          refine Mv ?_
          refine FL_callT H61 At2 (fun _ hp' hF => seedNext_ok (m := 5) hp' (hs1.go H61.kept hF) (by decide) (by decide)) (h := fun x2 w64 hx H64 => ?_)
          obtain ⟨r2, v2⟩ := x2
          obtain ⟨hr2, u2⟩ := hx
          dsimp only at hr2 u2 H64 ⊢
          obtain ⟨q, hq⟩ : ∃ q : Nat, r2 = q := ⟨r2.toNat, by omega⟩
          subst hq
          have hlt : q < leafWords.length := by show q < 5; omega
          obtain ⟨y, hy⟩ := get_some hlt
          have hRb : Rd w64 (some ⟨bk, 0, none⟩) textCells 1 leafWords := Sep.blkRow H64 At0 rfl
          refine FL_val (Gives.idxR (l := leafWords) (enc := textCells) rfl rfl hRb hlt) rfl ?_
          refine FL_val (Gives.loadW (f := 0) rfl hRb hy rfl) rfl ?_
          have H68 := H64.drop0
          refine FL_val (Gives.build (out := stepCells ⟨4, 0, y⟩) (Fills.one rfl rfl rfl (by simp) rfl (Fills.one rfl rfl rfl (by simp) rfl Fills.nil))) rfl ?_
          refine FL_storeAll H68 (h := ?_)
          intro w70 H70
          refine Qn ?_
          refine Rb (QfnC_ret (h := ?_))
          exact ⟨_, resC1 H70, (_, _), rfl, ⟨by rw [hk4]; exact leaf_text (List.mem_of_getElem? hy), u1.trans u2⟩, H70.drop0.turn⟩
        · have hk5 : (kk : Int) = 5 := by omega
          refine FW_skip (Qblk_normal (Qseq_normal ?_))
          refine Sr ?_
          refine FL_buildSlice H5 (xs := [_, _, _]) (out := leafBytes.flatMap textCells) (Elems.one rfl rfl (Elems.one rfl rfl (Elems.one rfl rfl Elems.nil))) rfl rfl rfl (fun bk w74 H74 k73 => ?_)
          refine Mv ?_
          refine FL_callT H74 At2 (fun _ hp' hF => seedNext_ok (m := 3) hp' (hs1.go H74.kept hF) (by decide) (by decide)) (h := fun x2 w77 hx H77 => ?_)
          obtain ⟨r2, v2⟩ := x2
          obtain ⟨hr2, u2⟩ := hx
          dsimp only at hr2 u2 H77 ⊢
          obtain ⟨q, hq⟩ : ∃ q : Nat, r2 = q := ⟨r2.toNat, by omega⟩
          subst hq
          have hlt : q < leafBytes.length := by show q < 3; omega
          obtain ⟨y, hy⟩ := get_some hlt
          have hRb : Rd w77 (some ⟨bk, 0, none⟩) textCells 1 leafBytes := Sep.blkRow H77 At0 rfl
          refine FL_val (Gives.idxR (l := leafBytes) (enc := textCells) rfl rfl hRb hlt) rfl ?_
          refine FL_val (Gives.loadW (f := 0) rfl hRb hy rfl) rfl ?_
          have H81 := H77.drop0
          refine FL_val (Gives.build (out := stepCells ⟨5, 0, y⟩) (Fills.one rfl rfl rfl (by simp) rfl (Fills.one rfl rfl rfl (by simp) rfl Fills.nil))) rfl ?_
          refine FL_storeAll H81 (h := ?_)
          intro w83 H83
          refine Qn ?_
          refine FW_ret (QfnC_ret (h := ?_))
          exact ⟨_, resC1 H83, (_, _), rfl, ⟨by rw [hk5]; exact leaf_bytes (List.mem_of_getElem? hy), u1.trans u2⟩, H83.drop0.turn⟩
end
end Go.Proofs.YtmkaahkbhdlniaaGreatDoor
