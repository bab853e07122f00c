/-
 The law's examples, all of them, walked.
-/
import Derived.Test.YtmkaahkbhdlniaaGreatDoorOn21
set_option linter.unusedVariables false
set_option linter.unusedSimpArgs false
namespace Go.Proofs.YtmkaahkbhdlniaaGreatDoor
open Go Go.Mw Go.Lib
set_option maxRecDepth 4000
section
variable {w : World}
theorem works_ok (hT : TabsX w) : Rets Tryz.prog 27 [] w fun v w' => v = .bool true ∧ Kept noB w w' := by
 have H := Sep.start0 w
 refine rets0 Tryz.func27 rfl rfl rfl ?_
 refine Sr ?_
 refine Am ?_
 refine Nx ?_
 refine FL_val (Gives.build (out := cellCells cellNull) (Fills.one rfl rfl rfl (by simp) rfl Fills.nil)) rfl ?_
 refine FL_alloc H (h := ?_)
 intro b1 w4 H4 k3
 refine FL_storeAll H4 (h := ?_)
 intro w6 H6
 refine Qn ?_
 refine FW_seq ?_
 refine Sr ?_
 refine FL_val (Gives.build (out := cellCells ⟨false, 7, []⟩) (Fills.one rfl rfl rfl (by simp) rfl Fills.nil)) rfl ?_
 refine FL_callQ H6 (gives_ok tx1 3 false ⟨false, 7, []⟩ 0 (by decide) gives1 (hT.keep H6.kept)) (h := fun w9 H9 k8 => ?_)
 refine FL_val (Gives.not rfl) rfl ?_
 refine Mv ?_
 refine FL_split (t := 10) rfl (fun hs12 => ?_) (fun hs12 => ?_)
 ·exact Bool.noConfusion hs12
 ·refine On ?_
  refine FL_loadAll H9 (h := ?_)
  refine On ?_
  refine FL_callQ H9 (gives_ok tx2 1 true cellNull 0 (by decide) gives2 (hT.keep H9.kept)) (h := fun w16 H16 k15 => ?_)
  refine On ?_
  refine FL_val (Gives.not rfl) rfl ?_
  refine Pf ?_
  refine Mv ?_
  refine FL_split (t := 15) rfl (fun hs20 => ?_) (fun hs20 => ?_)
  ·exact Bool.noConfusion hs20
  ·refine On ?_
   refine FL_val (Gives.build (out := cellCells ⟨false, 1, []⟩) (Fills.one rfl rfl rfl (by simp) rfl Fills.nil)) rfl ?_
   refine On ?_
   refine FL_callQ H16 (gives_ok tx3 1 false ⟨false, 1, []⟩ 0 (by decide) gives3 (hT.keep H16.kept)) (h := fun w24 H24 k23 => ?_)
   refine On ?_
   refine FL_val (Gives.not rfl) rfl ?_
   refine Pf ?_
   refine Mv ?_
   refine FL_split (t := 20) rfl (fun hs28 => ?_) (fun hs28 => ?_)
   ·exact Bool.noConfusion hs28
   ·refine On ?_
    refine FL_val (Gives.build (out := cellCells ⟨false, 1, []⟩) (Fills.one rfl rfl rfl (by simp) rfl Fills.nil)) rfl ?_
    refine On ?_
    refine FL_callQ H24 (gives_ok tx4 1 true ⟨false, 1, []⟩ 0 (by decide) gives4 (hT.keep H24.kept)) (h := fun w32 H32 k31 => ?_)
    refine On ?_
    refine FL_val (Gives.not rfl) rfl ?_
    refine Pf ?_
    refine Mv ?_
    refine FL_split (t := 25) rfl (fun hs36 => ?_) (fun hs36 => ?_)
    ·exact Bool.noConfusion hs36
    ·refine On ?_
     refine FL_val (Gives.build (out := cellCells ⟨false, 0, []⟩) Fills.nil) rfl ?_
     refine On ?_
     refine FL_callQ H32 (gives_ok tx5 1 true ⟨false, 0, []⟩ 0 (by decide) gives5 (hT.keep H32.kept)) (h := fun w40 H40 k39 => ?_)
     refine On ?_
     refine FL_val (Gives.not rfl) rfl ?_
     refine Pf ?_
     refine Mv ?_
     refine FL_split (t := 30) rfl (fun hs44 => ?_) (fun hs44 => ?_)
     ·exact Bool.noConfusion hs44
     ·refine On ?_
      refine FL_val (Gives.build (out := cellCells ⟨false, 2, []⟩) (Fills.one rfl rfl rfl (by simp) rfl Fills.nil)) rfl ?_
      refine On ?_
      refine FL_callQ H40 (gives_ok tx6 3 false ⟨false, 2, []⟩ 0 (by decide) gives6 (hT.keep H40.kept)) (h := fun w48 H48 k47 => ?_)
      refine On ?_
      refine FL_val (Gives.not rfl) rfl ?_
      refine Pf ?_
      refine Mv ?_
      refine FL_split (t := 35) rfl (fun hs52 => ?_) (fun hs52 => ?_)
      ·exact Bool.noConfusion hs52
      ·refine On ?_
       refine FL_val (Gives.build (out := cellCells ⟨false, 0, []⟩) Fills.nil) rfl ?_
       refine On ?_
       refine FL_callQ H48 (gives_ok tx7 3 false ⟨false, 0, []⟩ 50 (by decide) gives7 (hT.keep H48.kept)) (h := fun w56 H56 k55 => ?_)
       refine On ?_
       refine FL_val (Gives.not rfl) rfl ?_
       refine Pf ?_
       refine Mv ?_
       refine FL_split (t := 40) rfl (fun hs60 => ?_) (fun hs60 => ?_)
       ·exact Bool.noConfusion hs60
       ·refine On ?_
        refine FL_val (Gives.build (out := cellCells ⟨false, 0, []⟩) Fills.nil) rfl ?_
        refine On ?_
        refine FL_callQ H56 (gives_ok tx8 1 false ⟨false, 0, []⟩ 50 (by decide) gives8 (hT.keep H56.kept)) (h := fun w64 H64 k63 => ?_)
        refine On ?_
        refine FL_val (Gives.not rfl) rfl ?_
        refine Pf ?_
        refine Qn ?_
        refine FW_cond rfl (fun hc67 => ?_) (fun hc67 => ?_)
        ·exact Bool.noConfusion hc67
        ·refine Sk ?_
         refine FW_seq ?_
         refine Sr ?_
         refine FL_callQ H64 (none_ok nx1 (by decide) none1 (hT.keep H64.kept)) (h := fun w70 H70 k69 => ?_)
         refine FL_val (Gives.not rfl) rfl ?_
         refine Mv ?_
         refine FL_split (t := 47) rfl (fun hs73 => ?_) (fun hs73 => ?_)
         ·exact Bool.noConfusion hs73
         ·refine On ?_
          refine FL_callQ H70 (none_ok nx2 (by decide) none2 (hT.keep H70.kept)) (h := fun w76 H76 k75 => ?_)
          refine On ?_
          refine FL_val (Gives.not rfl) rfl ?_
          refine Pf ?_
          refine Mv ?_
          refine FL_split (t := 51) rfl (fun hs80 => ?_) (fun hs80 => ?_)
          ·exact Bool.noConfusion hs80
          ·refine On ?_
           refine FL_callQ H76 (none_ok nx3 (by decide) none3 (hT.keep H76.kept)) (h := fun w83 H83 k82 => ?_)
           refine On ?_
           refine FL_val (Gives.not rfl) rfl ?_
           refine Pf ?_
           refine Mv ?_
           refine FL_split (t := 55) rfl (fun hs87 => ?_) (fun hs87 => ?_)
           ·exact Bool.noConfusion hs87
           ·refine On ?_
            refine FL_callQ H83 (none_ok nx4 (by decide) none4 (hT.keep H83.kept)) (h := fun w90 H90 k89 => ?_)
            refine On ?_
            refine FL_val (Gives.not rfl) rfl ?_
            refine Pf ?_
            refine Mv ?_
            refine FL_split (t := 59) rfl (fun hs94 => ?_) (fun hs94 => ?_)
            ·exact Bool.noConfusion hs94
            ·refine On ?_
             refine FL_callQ H90 (none_ok nx5 (by decide) none5 (hT.keep H90.kept)) (h := fun w97 H97 k96 => ?_)
             refine On ?_
             refine FL_val (Gives.not rfl) rfl ?_
             refine Pf ?_
             refine Mv ?_
             refine FL_split (t := 63) rfl (fun hs101 => ?_) (fun hs101 => ?_)
             ·exact Bool.noConfusion hs101
             ·refine On ?_
              refine FL_val (Gives.build (out := stepCells ⟨1, 3, []⟩) (Fills.one rfl rfl rfl (by simp) rfl (Fills.one rfl rfl rfl (by simp) rfl Fills.nil))) rfl ?_
              refine On ?_
              refine FL_val (Gives.build (out := stepCells ⟨1, 1, []⟩) (Fills.one rfl rfl rfl (by simp) rfl (Fills.one rfl rfl rfl (by simp) rfl Fills.nil))) rfl ?_
              refine On ?_
              refine FL_val (Gives.build (out := stepCells ⟨1, 1, []⟩) (Fills.one rfl rfl rfl (by simp) rfl (Fills.one rfl rfl rfl (by simp) rfl Fills.nil))) rfl ?_
              refine On ?_
              refine FL_val (Gives.build (out := stepCells ⟨7, 0, []⟩) (Fills.one rfl rfl rfl (by simp) rfl Fills.nil)) rfl ?_
              refine On ?_
              refine FL_val (Gives.build (out := stepCells ⟨1, 9, []⟩) (Fills.one rfl rfl rfl (by simp) rfl (Fills.one rfl rfl rfl (by simp) rfl Fills.nil))) rfl ?_
              refine On ?_
              refine FL_buildSlice H97 (xs := [.tmp 64, .tmp 65, .tmp 66, .tmp 67, .tmp 68]) (out := useL.flatMap stepCells) (Elems.many rfl rfl (Elems.many rfl rfl (Elems.many rfl rfl (Elems.many rfl rfl (Elems.many rfl rfl Elems.nil))))) rfl rfl rfl (fun ba w109 H109 k108 => ?_)
              refine On ?_
              refine FL_call (usesE_ok (l := useL) ⟨some ⟨ba, 0, none⟩, 5, rfl, ⟨Nat.le_refl _, by decide⟩, Sep.blkRow H109 At0 rfl⟩ (by decide)) rfl rfl (fun v' w111 hv => ?_)
              obtain ⟨x, rfl, _, hkk, F1, hq, hsub⟩ := hv
              have H111 := H109.new hkk hq (fun b hb => (hsub b hb).resolve_left id)
              obtain ⟨B, cb, rfl, hcb, hB⟩ := Sep.formD H111 At0
              refine On ?_
              refine FL_buildSlice H111 (xs := [_, _, _]) (out := [1, 3, 9].flatMap intCells) (Elems.one rfl rfl (Elems.one rfl rfl (Elems.one rfl rfl Elems.nil))) rfl rfl rfl (fun bb w113 H113 k112 => ?_)
              refine On ?_
              refine FL_callQ H113 (intsEq_ok (a := usesS useL) (b := [1, 3, 9]) ⟨B, cb, rfl, ⟨hcb, Sep.capD H113 At1⟩, Sep_rdD H113 At1⟩ ⟨some ⟨bb, 0, none⟩, 3, rfl, ⟨Nat.le_refl _, by decide⟩, Sep.blkRow H113 At0 rfl⟩) (h := fun w115 H115 k114 => ?_)
              rw [decide_eq_true use_eq]
              refine On ?_
              refine FL_val (Gives.not rfl) rfl ?_
              refine Pf ?_
              refine Qn ?_
              refine FW_cond rfl (fun hc118 => ?_) (fun hc118 => ?_)
              ·exact Bool.noConfusion hc118
              ·refine Sk ?_
               refine Sr ?_
               refine FL_buildSlice H115 (xs := [_, _, _, _, _, _]) (out := badW.flatMap textCells) (Elems.one rfl rfl (Elems.one rfl rfl (Elems.one rfl rfl (Elems.one rfl rfl (Elems.one rfl rfl (Elems.one rfl rfl Elems.nil)))))) rfl rfl rfl (fun bd w121 H121 k120 => ?_)
               refine Am ?_
               refine Qn ?_
               refine FW_seq ?_
               refine Sr ?_
               refine Am ?_
               refine Qn ?_
               refine FW_block ?_
               refine FW_loop' (fun i : Nat => [(2, .slice (some ⟨bd, 0, none⟩) 6 6), (3, I i)]) (fun i w' => i ≤ 6 ∧ Sep w noB [blk bd (badW.flatMap textCells) 9] w') (fun i _ => 6 - i) 0 ⟨rfl, rfl, trivial⟩ ⟨Nat.zero_le _, H121.first⟩ (fun i τ w125 hI => ?_)
               obtain ⟨hi, H125⟩ := hI
               try simp only [upds, like, upd_ds, und_ds]
               refine FW_seq ?_
               refine Sr ?_
               refine Mv ?_
               refine Mv ?_
               refine Vs ?_
               refine Vl ?_
               refine Qn ?_
               refine FW_condP rfl (fun hc130 => ?_) (fun hc130 => ?_)
               ·have hlt : i < badW.length := by show i < 6; omega
                obtain ⟨x, hx⟩ := get_some hlt
                obtain ⟨hpx, hxl⟩ := bad_parse x (List.mem_of_getElem? hx)
                have hRb : Rd w125 (some ⟨bd, 0, none⟩) textCells 1 badW := Sep.blkRow H125 At0 rfl
                refine Sk ?_
                refine FW_seq ?_
                refine FW_block ?_
                refine Sr ?_
                refine Mv ?_
                refine Mv ?_
                refine FL_val (Gives.idxR (l := badW) (enc := textCells) rfl rfl hRb hlt) rfl ?_
                refine FL_val (Gives.loadW (f := 0) rfl hRb hx rfl) rfl ?_
                refine FL_call (parseE_ok x (.inl (by omega)) (by omega) (hT.keep H125.kept)) rfl rfl (fun v' w137 hv => ?_)
                obtain ⟨y, rfl, _, hkk, F1, hq, hsub⟩ := hv
                have H137 := H125.new hkk hq (fun b hb => (hsub b hb).resolve_left id)
                rw [hpx] at H137
                obtain ⟨B2, cb2, rfl, hcb2, hB2⟩ := Sep.formD H137 At0
                rw [hpx]
                refine Mv ?_
                refine Vx ?_
                refine Vx ?_
                refine Am ?_
                refine Am ?_
                refine Nx ?_
                refine Mv ?_
                refine Vn ?_
                refine Mv ?_
                refine FL_splitP (t := 92) rfl (fun hs146 => ?_) (fun hs146 => ?_)
                ·exact (hs146 (by first | trivial | rfl)).elim
                ·refine On ?_
                 refine Mv ?_
                 refine On ?_
                 refine Vs ?_
                 refine On ?_
                 refine Vn ?_
                 refine Pf ?_
                 refine Qn ?_
                 refine FW_condP rfl (fun hc152 => ?_) (fun hc152 => ?_)
                 ·exact (hc152 (by first | trivial | rfl)).elim
                 ·refine FW_skip (Qblk_normal (Qseq_normal ?_))
                  refine FW_region ?_
                  refine Mv ?_
                  refine FL_val (Gives.addI (c := ((i + 1 : Nat) : Int)) rfl rfl (by omega) (by omega)) rfl ?_
                  refine Am ?_
                  refine FL_nil ?_
                  exact Qround_normal (i + 1) ⟨rfl, rfl, trivial⟩ ⟨by omega, H137.front1.first⟩ (by omega)
               ·refine FW_exit (Qseq_exit (Qround_exit (Qblk_exit (Qseq_normal ?_))))
                refine Sr ?_
                refine Am ?_
                refine Qn ?_
                refine FW_ret (Qfn_ret (hR := ?_))
                exact ⟨rfl, H125.kept⟩
end
end Go.Proofs.YtmkaahkbhdlniaaGreatDoor
/-
 Cells of rows that are owned are written; the law's cuts of its arguments, walked.
-/
namespace Go.Mw
open Go.RowKit
section
variable {P : Program} {r : Option Nat} {n : Nat} {ops : Array Oper} {Q : Post} {rest : List Oper} {σ : St} {w w₀ : World} {S : Nat → Prop} {rs : List HP} {put : HP → List HP} {ty : TypeId} {pos : String} {after : Array Edge}
variable {α : Type} {enc : α → List Value} {k e c : Nat} {l : List α} {A : Option Addr}
theorem Gives.minE {ρ : Operand → Value} {x y : Operand} {kd : IntKind} {a b m : Int} {ts : Array TypeId} (hx : ρ x = .int kd a) (hy : ρ y = .int kd b) (he : Min.min a b = m) : Gives P ρ (.call { callee := .builtin .min, args := #[x, y], argTypes := ts }) ty w (.int kd m) w := by subst he; exact Gives.min hx hy
end
end Go.Mw
namespace Go.Proofs.YtmkaahkbhdlniaaGreatDoor
open Go Go.Mw Go.Lib
set_option maxRecDepth 4000
section
variable {w : World}
end
end Go.Proofs.YtmkaahkbhdlniaaGreatDoor
/-
 The law ExprTexts, walked.
-/
namespace Go.Proofs.YtmkaahkbhdlniaaGreatDoor
open Go Go.Mw Go.Lib
set_option maxRecDepth 4000
theorem rowIn_own {α : Type} {enc : α → List Value} {k e c : Nat} [EncK enc k] {l : List α} {A : Option Addr} {w w₀ : World} {S : Nat → Prop} {rs : List HP} {put : HP → List HP} (H : Mw.Sep w₀ S rs w) (hat : At rs (rowD e k enc (.slice A l.length c) l) put) (hc : l.length ≤ c) : RowIn w (.slice A l.length c) enc k l :=
 ⟨A, c, rfl, ⟨hc, Sep.capD H hat⟩, Sep_rdD H hat⟩
section
variable {w : World}
end
end Go.Proofs.YtmkaahkbhdlniaaGreatDoor
/-
 The law ExprEvals, walked.
-/
namespace Go.Proofs.YtmkaahkbhdlniaaGreatDoor
open Go Go.Mw Go.Lib
set_option maxRecDepth 4000
section
variable {w : World}
end
end Go.Proofs.YtmkaahkbhdlniaaGreatDoor
/-
 The columns and rows of the statements on drawn expressions, and what such an expression gives, told plainly. No program stands here.
-/
namespace Go.Proofs.YtmkaahkbhdlniaaGreatDoor
open Go Go.Mw Go.Lib
set_option maxRecDepth 4000
def wholeK (b : Bool) : Int := if b then 3 else 2
def kindsS (b : Bool) : List Int := [wholeK b, 1, 4, 5, 3]
def kindAt (b : Bool) (i : Nat) : Int := (kindsS b).getD (i % 5) 0
def colAt (b : Bool) (i : Nat) : ColM := ⟨((i + 1 : Nat) : Int), [], ⟨kindAt b i, decide ((4 : Int) < i)⟩, cell0⟩
def colsS (b : Bool) : List ColM := (List.range 10).map (colAt b)
theorem colsS_len (b : Bool) : (colsS b).length = 10 := by unfold colsS; rw [List.length_map, List.length_range]
theorem kindsS_get (b : Bool) (i : Nat) : (kindsS b)[i % 5]? = some (kindAt b i) := by
 have h : i % 5 < (kindsS b).length := Nat.mod_lt _ (by decide)
 unfold kindAt
 rw [List.getD_eq_getElem?_getD, List.getElem?_eq_getElem h]
 rfl
theorem runT_app (cols : List ColM) : ∀ (a b : List StepM) (st : List TypeM), runT cols st (a ++ b) = (runT cols st a).bind fun st => runT cols st b
 | [], _, _ => rfl
 | x :: a, b, st => by
  rw [List.cons_append, runT, runT]
  cases stepT cols st x with
  | none => rfl
  | some s => exact runT_app cols a b s
theorem runE_app (cols : List ColM) (r : List CellM) : ∀ (a b : List StepM) (st : List CellM), runE cols r st (a ++ b) = (runE cols r st a).bind fun st => runE cols r st b
 | [], _, _ => rfl
 | x :: a, b, st => by
  rw [List.cons_append, runE, runE]
  cases stepE cols r st x with
  | none => rfl
  | some s => exact runE_app cols r a b s
/-- Steps that put one cell of a type on any stack, in either columns. -/
structure GoodE (k : Int) (n : Bool) (l : List StepM) : Prop where
 may : ∀ x ∈ l, mayS x = true ∧ fits x.n
 run : ∀ b st, runT (colsS b) st l = some (st ++ [⟨k, n⟩])
theorem getD_app1 {α : Type} {l : List α} {a d : α} : (l ++ [a]).getD l.length d = a := by
 rw [List.getD_eq_getElem?_getD, List.getElem?_append_right (Nat.le_refl _), Nat.sub_self]; rfl
theorem getD_app2 {α : Type} {l : List α} {a b d : α} : (l ++ [a] ++ [b]).getD l.length d = a := by
 rw [List.getD_eq_getElem?_getD, List.append_assoc, List.getElem?_append_right (Nat.le_refl _), Nat.sub_self]; rfl
theorem take_app1 {α : Type} {l : List α} {a : α} : (l ++ [a]).take l.length = l := List.take_left' rfl
theorem take_app2 {α : Type} {l : List α} {a b : α} : (l ++ [a] ++ [b]).take l.length = l := by rw [List.append_assoc]; exact List.take_left' rfl
theorem good_leaf {x : StepM} {k : Int} {n : Bool} (hm : mayS x = true) (hf : fits x.n) (hk : x.kind < 7) (ht : ∀ b, leafT (colsS b) x = some ⟨k, n⟩) : GoodE k n [x] := by
 have h0 : takesS x.kind = 0 := takesS_zero'.2 hk
 refine ⟨fun y hy => by rw [List.mem_singleton.1 hy]; exact ⟨hm, hf⟩, fun b st => ?_⟩
 rw [runT, stepT_res' hm (by omega)]
 unfold resS
 rw [if_pos h0, ht, h0]
 simp only [Option.map_some, Option.bind_some, runT, Nat.sub_zero, List.take_length]
theorem may_app {a b : List StepM} {φ : StepM → Prop} (ha : ∀ x ∈ a, φ x) (hb : ∀ x ∈ b, φ x) : ∀ x ∈ a ++ b, φ x := fun x hx => (List.mem_append.1 hx).elim (ha x) (hb x)
theorem good_two {a b : List StepM} {x : StepM} {k1 k2 k : Int} {n1 n2 n : Bool} (ha : GoodE k1 n1 a) (hb : GoodE k2 n2 b) (hm : mayS x = true) (hf : fits x.n) (hk : takesS x.kind = 2) (ht : madeT x.kind ⟨k1, n1⟩ ⟨k2, n2⟩ = some ⟨k, n⟩) : GoodE k n (a ++ b ++ [x]) := by
 refine ⟨may_app (may_app ha.may hb.may) fun y hy => by rw [List.mem_singleton.1 hy]; exact ⟨hm, hf⟩, fun w st => ?_⟩
 have hl : (st ++ [(⟨k1, n1⟩ : TypeM)] ++ [(⟨k2, n2⟩ : TypeM)]).length = st.length + 2 := by simp
 rw [runT_app, runT_app, ha.run, Option.bind_some, hb.run, Option.bind_some, runT, stepT_res' hm (by omega)]
 unfold resS
 rw [if_neg (by omega), hk, hl, Nat.add_sub_cancel]
 have e2 : st.length + 2 - 1 = (st ++ [(⟨k1, n1⟩ : TypeM)]).length := by simp
 rw [e2, getD_app1, getD_app2, ht, take_app2]
 rfl
theorem good_one {a : List StepM} {x : StepM} {k1 k : Int} {n1 n : Bool} (ha : GoodE k1 n1 a) (hm : mayS x = true) (hf : fits x.n) (hk : takesS x.kind = 1) (ht : madeT x.kind ⟨k1, n1⟩ ⟨k1, n1⟩ = some ⟨k, n⟩) : GoodE k n (a ++ [x]) := by
 refine ⟨may_app ha.may fun y hy => by rw [List.mem_singleton.1 hy]; exact ⟨hm, hf⟩, fun w st => ?_⟩
 have hl : (st ++ [(⟨k1, n1⟩ : TypeM)]).length = st.length + 1 := by simp
 rw [runT_app, ha.run, Option.bind_some, runT, stepT_res' hm (by omega)]
 unfold resS
 rw [if_neg (by omega), hk, hl, Nat.add_sub_cancel, getD_app1, ht, take_app1]
 rfl
/-- A row for the first of these columns. -/
structure RowTo (m : Nat) (r : List CellM) : Prop where
 len : r.length = m
 fit : RowFits r
 ok : ∀ b (i : Nat) c, r[i]? = some c → okC (colAt b i).type c
abbrev RowS (r : List CellM) : Prop := RowTo 10 r
theorem RowTo.nil : RowTo 0 [] := ⟨rfl, fun _ h => absurd h List.not_mem_nil, fun _ i c h => by simp at h⟩
theorem RowTo.push {i : Nat} {r : List CellM} {c : CellM} (h : RowTo i r) (hc : fits c.n ∧ ∀ b, okC (colAt b i).type c) : RowTo (i + 1) (r ++ [c]) := by
 refine ⟨by rw [List.length_append, h.len]; rfl, fun y hy => ?_, fun b j d hd => ?_⟩
 ·rcases List.mem_append.1 hy with h1 | h1
  ·exact h.fit y h1
  ·rw [List.mem_singleton.1 h1]; exact hc.1
 ·rcases Nat.lt_or_ge j r.length with hj | hj
  ·rw [List.getElem?_append_left hj] at hd; exact h.ok b j d hd
  ·rw [List.getElem?_append_right hj] at hd
   cases hk : j - r.length with
   | zero =>
    rw [hk] at hd
    have e : j = i := by have := h.len; omega
    simp only [List.getElem?_cons_zero, Option.some.injEq] at hd
    rw [e, ← hd]; exact hc.2 b
   | succ m => rw [hk] at hd; simp at hd
def rowWords1 : List (List UInt8) := [[], [97], [98], [97, 32, 98], [195, 164]]
def rowWords2 : List (List UInt8) := [[], [0], [255], [97]]
/-- A cell, not nothing, for the column at a place. -/
def cellFor (i : Nat) (c : CellM) : Prop := fits c.n ∧ c.null = false ∧ ∀ b, isC (kindAt b i) c = true
theorem kindAt_of {b : Bool} {i m : Nat} (h : i % 5 = m) : kindAt b i = (kindsS b).getD m 0 := by unfold kindAt; rw [h]
theorem kindAt_in (b : Bool) (i : Nat) : 1 ≤ kindAt b i ∧ kindAt b i ≤ 5 := by
 have h := kindsS_get b i
 have h2 := List.mem_of_getElem? h
 unfold kindsS wholeK at h2
 simp only [List.mem_cons, List.not_mem_nil, or_false] at h2
 cases b <;> simp at h2 <;> omega
theorem cellFor0 {i : Nat} {n : Int} (h : i % 5 = 0) (hn : -2147483648 ≤ n ∧ n ≤ 2147483647) : cellFor i ⟨false, n, []⟩ := by
 refine ⟨by unfold fits; dsimp only; omega, rfl, fun b => ?_⟩
 rw [kindAt_of h]
 cases b <;> simp [kindsS, wholeK, isC, hn]
theorem cellFor1 {i : Nat} {n : Int} (h : i % 5 = 1) (hn : 0 ≤ n ∧ n ≤ 1) : cellFor i ⟨false, n, []⟩ := by
 refine ⟨by unfold fits; dsimp only; omega, rfl, fun b => ?_⟩
 rw [kindAt_of h]
 cases b <;> simp [kindsS, wholeK, isC, hn]
theorem cellFor2 {i : Nat} {y : List UInt8} (h : i % 5 = 2) (hy : y ∈ rowWords1) : cellFor i ⟨false, 0, y⟩ := by
 refine ⟨by unfold fits; dsimp only; omega, rfl, fun b => ?_⟩
 rw [kindAt_of h]
 have key : ∀ y ∈ rowWords1, isC 4 ⟨false, 0, y⟩ = true := by decide +kernel
 cases b <;> exact key y hy
theorem cellFor3 {i : Nat} {y : List UInt8} (h : i % 5 = 3) (hy : y ∈ rowWords2) : cellFor i ⟨false, 0, y⟩ := by
 refine ⟨by unfold fits; dsimp only; omega, rfl, fun b => ?_⟩
 rw [kindAt_of h]
 have key : ∀ y ∈ rowWords2, isC 5 ⟨false, 0, y⟩ = true := by decide +kernel
 cases b <;> exact key y hy
theorem cellFor4 {i : Nat} {n : Int} (h : i % 5 = 4) (hn : fits n) : cellFor i ⟨false, n, []⟩ := by
 refine ⟨hn, rfl, fun b => ?_⟩
 rw [kindAt_of h]
 cases b <;> simp [kindsS, isC]
theorem cellFor_ok {i : Nat} {c : CellM} (h : cellFor i c) : fits c.n ∧ ∀ b, okC (colAt b i).type c :=
 ⟨h.1, fun b => okC_iff.2 ⟨may_of (kindAt_in b i), .inr ⟨h.2.1, h.2.2 b⟩⟩⟩
theorem cellFor_null {i : Nat} (h : (4 : Int) < i) : fits cellNull.n ∧ ∀ b, okC (colAt b i).type cellNull :=
 ⟨⟨by decide, by decide⟩, fun b => okC_iff.2 ⟨may_of (kindAt_in b i), .inl ⟨rfl, decide_eq_true h, rfl⟩⟩⟩
/-- The row of numbers. -/
def seedNum (l : List Int) (i : Nat) : Int := if 0 < l.length then l.getD (i % l.length) 0 else i
def baseAt (i : Nat) (k : Int) : CellM :=
 if i % 5 = 1 then ⟨false, k % 2, []⟩
 else if i % 5 = 2 then ⟨false, 0, rowWords1.getD (k % 5).toNat []⟩
 else if i % 5 = 3 then ⟨false, 0, rowWords2.getD (k % 4).toNat []⟩
 else if i % 5 = 4 then ⟨false, k, []⟩
 else ⟨false, k % 4294967296 - 2147483648, []⟩
def cellAt (l : List Int) (i : Nat) : CellM := if (4 : Int) < i ∧ (seedNum l i).tmod 3 = 0 then cellNull else baseAt i (seedNum l i)
def rowS (l : List Int) : List CellM := (List.range 10).map (cellAt l)
theorem getD_in {α : Type} {l : List α} {i : Nat} {d : α} (h : i < l.length) : l.getD i d ∈ l := by
 rw [List.getD_eq_getElem?_getD, List.getElem?_eq_getElem h]
 exact List.getElem_mem h
theorem baseAt_for {i : Nat} {k : Int} (hk : fits k) : cellFor i (baseAt i k) := by
 unfold baseAt
 split
 ·rename_i h; exact cellFor1 h (by omega)
 split
 ·rename_i h; exact cellFor2 h (getD_in (l := rowWords1) (by show (k % 5).toNat < 5; omega))
 split
 ·rename_i h; exact cellFor3 h (getD_in (l := rowWords2) (by show (k % 4).toNat < 4; omega))
 split
 ·rename_i h; exact cellFor4 h hk
 ·exact cellFor0 (by omega) (by omega)
theorem seedNum_fits {l : List Int} {i : Nat} (hl : ∀ x ∈ l, fits x) (hi : i < 1000) : fits (seedNum l i) := by
 unfold seedNum
 split
 ·rename_i h; exact hl _ (getD_in (Nat.mod_lt _ h))
 ·unfold fits; omega
theorem cellAt_ok {l : List Int} {i : Nat} (hl : ∀ x ∈ l, fits x) (hi : i < 1000) : fits (cellAt l i).n ∧ ∀ b, okC (colAt b i).type (cellAt l i) := by
 unfold cellAt
 split
 ·rename_i h; exact cellFor_null h.1
 ·exact cellFor_ok (baseAt_for (seedNum_fits hl hi))
theorem rowTo_range {l : List Int} (hl : ∀ x ∈ l, fits x) : ∀ {m : Nat}, m < 1000 → RowTo m ((List.range m).map (cellAt l))
 | 0, _ => RowTo.nil
 | m + 1, h => by
  rw [List.range_succ, List.map_append]
  exact (rowTo_range hl (by omega)).push (cellAt_ok hl (by omega))
theorem rowS_ok {l : List Int} (hl : ∀ x ∈ l, fits x) : RowS (rowS l) := rowTo_range hl (by decide)
theorem findP_none {α : Type} {p : α → Bool} {l : List α} (h : ∀ x ∈ l, p x = false) : l.find? p = none := List.find?_eq_none.2 fun x hx => by rw [h x hx]; decide
theorem RowS.check {r : List CellM} (h : RowS r) (b : Bool) : rowCheck (colsS b) r = 0 := by
 unfold rowCheck
 rw [if_neg (by rw [colsS_len, h.len]; decide), findP_none, Option.getD_none]
 intro e he
 obtain ⟨⟨a, c⟩, hp, rfl⟩ := List.mem_map.1 he
 obtain ⟨i, hi⟩ := List.mem_iff_getElem?.1 hp
 rw [List.getElem?_zip_eq_some] at hi
 obtain ⟨h1, h2⟩ := hi
 have h3 : a = colAt b i := by
  unfold colsS at h1
  rw [List.getElem?_map] at h1
  obtain ⟨j, hj, rfl⟩ := Option.map_eq_some_iff.1 h1
  have := List.getElem?_range (n := 10) (i := i) (get_lt hj |> fun h => by rw [List.length_range] at h; exact h)
  rw [this] at hj
  injection hj with hj
  rw [hj]
 have h4 : checkC a.type c = 0 := by rw [h3]; exact h.ok b i c h2
 simp [h4]
/-- Steps on a stack of cells of types. -/
theorem run_typed {cols : List ColM} {r : List CellM} (hr : rowCheck cols r = 0) (hf : RowFits r) : ∀ {l : List StepM} {ts ts' : List TypeM} {st st' : List CellM}, (∀ x ∈ l, fits x.n) → Typed ts st → runT cols ts l = some ts' → runE cols r st l = some st' → Typed ts' st'
 | [], ts, ts', st, st', _, hT, h1, h2 => by
  injection h1 with h1
  injection h2 with h2
  rw [← h1, ← h2]; exact hT
 | x :: l, ts, ts', st, st', hx, hT, h1, h2 => by
  rw [runT] at h1
  rw [runE] at h2
  obtain ⟨t1, e1, h1⟩ := Option.bind_eq_some_iff.1 h1
  obtain ⟨s1, e2, h2⟩ := Option.bind_eq_some_iff.1 h2
  obtain ⟨_, _, h3⟩ := step_typedE hr hf (hx x List.mem_cons_self) hT e1
  rw [stepE_res] at e2
  obtain ⟨c, e3, e4⟩ := Option.map_eq_some_iff.1 e2
  have h4 := h3 c e3
  rw [e4] at h4
  exact run_typed hr hf (fun y hy => hx y (List.mem_cons_of_mem _ hy)) h4 h1 h2
theorem typeS_good {k : Int} {n : Bool} {l : List StepM} (h : GoodE k n l) (hl : l.length ≤ 64) (b : Bool) : typeS (colsS b) l = (⟨k, n⟩, 0) := by
 unfold typeS
 rw [if_neg (by omega), h.run b []]
 rfl
/-- What it gives. -/
def gotE (b : Bool) (r : List CellM) (l : List StepM) : Option CellM := (runE (colsS b) r [] l).map fun st => st.getD 0 cell0
theorem evalS_good {k : Int} {n b : Bool} {l : List StepM} {r : List CellM} (h : GoodE k n l) (hl : l.length ≤ 64) (hr : RowS r) : evalS (colsS b) l r = (match gotE b r l with | none => (cell0, 50) | some c => (c, 0)) := by
 unfold evalS gotE
 rw [typeS_good h hl b]
 rw [if_neg (fun h => h rfl), if_neg (fun e => e (hr.check b))]
 cases runE (colsS b) r [] l <;> rfl
theorem run_one {k : Int} {n b : Bool} {l : List StepM} {r : List CellM} {st' : List CellM} (h : GoodE k n l) (hr : RowS r) (he : runE (colsS b) r [] l = some st') : ∃ c, st' = [c] ∧ okC ⟨k, n⟩ c ∧ fits c.n := by
 have hT := run_typed (hr.check b) hr.fit (fun x hx => (h.may x hx).2) Typed.nil (h.run b []) he
 obtain ⟨h1, h2⟩ := hT
 match st', h1 with
 | [c], _ => exact ⟨c, rfl, h2 0 _ c rfl rfl⟩
theorem got_ok {k : Int} {n b : Bool} {l : List StepM} {r : List CellM} {c : CellM} (h : GoodE k n l) (hr : RowS r) (he : gotE b r l = some c) : okC ⟨k, n⟩ c ∧ fits c.n := by
 obtain ⟨st', h1, h2⟩ := Option.map_eq_some_iff.1 he
 obtain ⟨c', rfl, h3⟩ := run_one h hr h1
 rw [← h2]; exact h3
theorem got_run {k : Int} {n b : Bool} {l : List StepM} {r : List CellM} {c : CellM} (h : GoodE k n l) (hr : RowS r) (he : gotE b r l = some c) : runE (colsS b) r [] l = some [c] := by
 obtain ⟨st', h1, h2⟩ := Option.map_eq_some_iff.1 he
 obtain ⟨c', rfl, h3⟩ := run_one h hr h1
 rw [← h2]; exact h1
theorem got_none {b : Bool} {l : List StepM} {r : List CellM} (he : gotE b r l = none) : runE (colsS b) r [] l = none := Option.map_eq_none_iff.1 he
theorem eval_cases {k : Int} {n : Bool} {l : List StepM} {r : List CellM} (b : Bool) (h : GoodE k n l) (hl : l.length ≤ 64) (hr : RowS r) : ∃ c e, evalS (colsS b) l r = (c, e) ∧ ((e = 0 ∧ gotE b r l = some c ∧ okC ⟨k, n⟩ c ∧ fits c.n) ∨ (e = 50 ∧ gotE b r l = none ∧ c = cell0)) := by
 have he := evalS_good (b := b) h hl hr
 cases hg : gotE b r l with
 | none => rw [hg] at he; exact ⟨cell0, 50, he, .inr ⟨rfl, rfl, rfl⟩⟩
 | some c => rw [hg] at he; exact ⟨c, 0, he, .inl ⟨rfl, rfl, got_ok h hr hg⟩⟩
theorem eval_fits {k : Int} {n : Bool} {l : List StepM} (h : GoodE k n l) : ∀ x ∈ l, fits x.n := fun x hx => (h.may x hx).2
/-! Wider columns, and cells that are not used. -/
/-! Expressions one behind the other. -/
theorem got_one {a : List StepM} {x : StepM} {k1 : Int} {n1 v : Bool} {r : List CellM} (ha : GoodE k1 n1 a) (hr : RowS r) (hk : takesS x.kind = 1) :
    gotE v r (a ++ [x]) = (gotE v r a).bind fun c => madeC x.kind c c := by
  cases h1 : gotE v r a with
  | none => unfold gotE; rw [runE_app, got_none h1]; rfl
  | some c =>
    have e1 := got_run ha hr h1
    unfold gotE
    rw [runE_app, e1, Option.bind_some, runE, stepE_res]
    unfold resE
    rw [if_neg (by omega), hk]
    show Option.map _ (Option.bind (Option.map _ (madeC x.kind c c)) _) = madeC x.kind c c
    cases madeC x.kind c c <;> rfl
/-! What is drawn: of a kind, and so deep. -/
def Drawn (k : Int) (d : Nat) (l : List StepM) : Prop := (∃ n, GoodE k n l) ∧ 0 < l.length ∧ l.length + 1 ≤ 2 ^ (5 - d)
def kind4 (k : Int) : Prop := k = 1 ∨ k = 3 ∨ k = 4 ∨ k = 5
theorem drawn_leaf {k : Int} {d : Nat} {x : StepM} {n : Bool} (hd : d ≤ 4) (h : GoodE k n [x]) : Drawn k d [x] :=
 ⟨⟨n, h⟩, Nat.zero_lt_succ _, Nat.le_trans (show 2 ≤ 2 ^ 1 by decide) (Nat.pow_le_pow_right (by decide) (by omega))⟩
theorem drawn_two {k1 k2 k : Int} {d : Nat} {a b : List StepM} {s : Int} (hd : d ≤ 3) (ha : Drawn k1 (d + 1) a) (hb : Drawn k2 (d + 1) b) (hm : mayS ⟨s, 0, []⟩ = true) (hk : takesS s = 2) (ht : ∀ n1 n2, ∃ n, madeT s ⟨k1, n1⟩ ⟨k2, n2⟩ = some ⟨k, n⟩) : Drawn k d (a ++ b ++ [⟨s, 0, []⟩]) := by
 obtain ⟨⟨n1, h1⟩, l1, m1⟩ := ha
 obtain ⟨⟨n2, h2⟩, l2, m2⟩ := hb
 obtain ⟨n, hn⟩ := ht n1 n2
 refine ⟨⟨n, good_two h1 h2 hm (by unfold fits; dsimp only; omega) hk hn⟩, by simp only [List.length_append, List.length_cons, List.length_nil]; omega, ?_⟩
 have e : 5 - d = (5 - (d + 1)) + 1 := by omega
 rw [e, Nat.pow_succ]
 simp only [List.length_append, List.length_cons, List.length_nil]
 omega
theorem drawn_one {k1 k : Int} {d : Nat} {a : List StepM} {s : Int} (hd : d ≤ 3) (ha : Drawn k1 (d + 1) a) (hm : mayS ⟨s, 0, []⟩ = true) (hk : takesS s = 1) (ht : ∀ n1, ∃ n, madeT s ⟨k1, n1⟩ ⟨k1, n1⟩ = some ⟨k, n⟩) : Drawn k d (a ++ [⟨s, 0, []⟩]) := by
 obtain ⟨⟨n1, h1⟩, l1, m1⟩ := ha
 obtain ⟨n, hn⟩ := ht n1
 refine ⟨⟨n, good_one h1 hm (by unfold fits; dsimp only; omega) hk hn⟩, by simp only [List.length_append, List.length_cons, List.length_nil]; omega, ?_⟩
 have e : 5 - d = (5 - (d + 1)) + 1 := by omega
 rw [e, Nat.pow_succ]
 simp only [List.length_append, List.length_cons, List.length_nil]
 omega
end Go.Proofs.YtmkaahkbhdlniaaGreatDoor
/-
 What a step that takes two makes of two cells, by halves of numbers, told plainly. No program stands here.
-/
namespace Go.Proofs.YtmkaahkbhdlniaaGreatDoor
open Go Go.Mw Go.Lib
set_option maxRecDepth 4000
end Go.Proofs.YtmkaahkbhdlniaaGreatDoor
/-
 The known expressions' columns and rows, walked.
-/
namespace Go.Proofs.YtmkaahkbhdlniaaGreatDoor
open Go Go.Mw Go.Lib
set_option maxRecDepth 4000
theorem bring_eq {k m : Int} (hm : 0 < m) : k % m = if k.tmod m < 0 then k.tmod m + m else k.tmod m := by
 have h := Int.mul_tdiv_add_tmod k m
 have h1 := Int.tmod_lt_of_pos k hm
 have h2 := Int.lt_tmod_of_pos k hm
 have e : k % m = (k.tmod m) % m := by
  have := Int.mul_add_emod_self_left m (k.tdiv m) (k.tmod m)
  rw [h] at this
  exact this
 rw [e]
 split
 ·rw [← Int.add_emod_right]; exact Int.emod_eq_of_lt (by omega) (by omega)
 ·exact Int.emod_eq_of_lt (by omega) (by omega)
section
variable {w : World}
theorem bring_ok {k m : Int} (h0 : 0 < m) (hm : m ≤ 4294967296) : Rets Tryz.prog 32 [I k, I m] w fun v w' => v = I (k % m) ∧ Kept noB w w' := by
 have H := Sep.start0 w
 have h1 := Int.tmod_lt_of_pos k h0
 have h2 := Int.lt_tmod_of_pos k h0
 have he := bring_eq (k := k) h0
 refine rets2 Tryz.func32 rfl rfl rfl rfl ?_
 refine Sr ?_
 refine Am ?_
 refine Nx ?_
 refine Mv ?_
 refine Mv ?_
 refine FL_val (Gives.rem rfl rfl (by omega)) rfl ?_
 refine Am ?_
 refine Qn ?_
 refine FW_seq ?_
 refine Sr ?_
 refine Mv ?_
 refine Vl ?_
 refine Qn ?_
 refine FW_condP rfl (fun hc8 => ?_) (fun hc8 => ?_)
 ·refine FW_region ?_
  refine Mv ?_
  refine Mv ?_
  refine FL_val (Gives.addI (c := k.tmod m + m) rfl rfl rfl (by omega)) rfl ?_
  refine Am ?_
  refine Nx ?_
  refine Mv ?_
  refine Am ?_
  refine Qn ?_
  refine FW_ret (Qfn_ret (hR := ?_))
  exact ⟨by rw [he]; first | (rw [if_pos (by assumption)]; rfl) | (rw [if_neg (by assumption)]; rfl), H.kept⟩
 ·refine Sk ?_
  refine Sr ?_
  refine Mv ?_
  refine Am ?_
  refine Qn ?_
  refine FW_ret (Qfn_ret (hR := ?_))
  exact ⟨by rw [he]; first | (rw [if_pos (by assumption)]; rfl) | (rw [if_neg (by assumption)]; rfl), H.kept⟩
theorem columns_ok (b : Bool) : Rets Tryz.prog 29 [.bool b] w fun v w' => ∃ x : Value, v = x ∧ True ∧ Turn noB (rowD 74 7 colCells x (colsS b)) w w' := by
 have H := Sep.start0 w
 refine rets1 Tryz.func29 rfl rfl rfl rfl ?_
 refine Sr ?_
 refine Am ?_
 refine Nx ?_
 refine Am ?_
 refine Qn ?_
 refine FW_cut (fun _ : Unit => [(0, .bool b), (2, .slice none 0 0), (3, I (wholeK b))]) (fun _ w' => Sep w noB [] w') ?_ ?_
 ·refine Sr ?_
  refine Mv ?_
  refine Qn ?_
  refine FW_cond rfl (fun hc5 => ?_) (fun hc5 => ?_)
  ·subst hc5
   refine FW_region ?_
   refine Am ?_
   refine FL_nil ?_
   exact Qcut_normal () ⟨rfl, rfl, rfl, trivial⟩ H
  ·subst hc5
   refine FW_skip ?_
   exact Qcut_normal () ⟨rfl, rfl, rfl, trivial⟩ H
 ·rintro _ τ w12 H12
  simp only [upds, like, upd_ds, und_ds]
  refine Sr ?_
  refine Am ?_
  refine Nx ?_
  refine Mv ?_
  refine FL_buildSlice H12 (xs := [.tmp 8, _, _, _, _]) (out := (kindsS b).flatMap intCells) (Elems.one rfl rfl (Elems.one rfl rfl (Elems.one rfl rfl (Elems.one rfl rfl (Elems.one rfl rfl Elems.nil))))) rfl rfl rfl (fun bk w16 H16 k15 => ?_)
  refine Am ?_
  refine Qn ?_
  refine FW_seq ?_
  refine Sr ?_
  refine Am ?_
  refine Qn ?_
  refine FW_block ?_
  have H20 := Sep.nilD H16 74 7 colCells
  refine FW_loop' (fun x : Nat × Value => [(2, .slice none 0 0), (4, x.2), (5, .slice (some ⟨bk, 0, none⟩) 5 5), (6, I x.1)]) (fun x w' => x.1 ≤ 10 ∧ Sep w noB [rowD 74 7 colCells x.2 ((List.range x.1).map (colAt b)), blk bk ((kindsS b).flatMap intCells) 3] w') (fun x _ => 10 - x.1) (0, .slice none 0 0) ⟨rfl, rfl, rfl, rfl, trivial⟩ ⟨Nat.zero_le _, H20⟩ (fun x τ w20 hI => ?_)
  obtain ⟨i, v0⟩ := x
  obtain ⟨hi, H20⟩ := hI
  dsimp only at hi H20
  try simp only [upds, like, upd_ds]
  refine FW_seq ?_
  refine Sr ?_
  refine Mv ?_
  refine Vl ?_
  refine Qn ?_
  refine FW_condP rfl (fun hc23 => ?_) (fun hc23 => ?_)
  ·have hlt : i < 10 := by omega
   have h5 : i % 5 < (kindsS b).length := Nat.mod_lt _ (by decide)
   have hRb : Rd w20 (some ⟨bk, 0, none⟩) intCells 1 (kindsS b) := Sep.blkRow H20 At1 rfl
   refine Sk ?_
   refine FW_seq ?_
   refine FW_block ?_
   refine FW_region ?_
   refine Mv ?_
   refine Mv ?_
   refine FL_val (Gives.addI (c := ((i + 1 : Nat) : Int)) rfl rfl (by omega) (by omega)) rfl ?_
   refine Mv ?_
   refine Mv ?_
   refine FL_val (Gives.remN (b := 5) rfl rfl (by omega)) rfl ?_
   refine FL_val (Gives.idxR (l := kindsS b) (enc := intCells) rfl rfl hRb h5) rfl ?_
   refine FL_val (Gives.loadW (f := 0) rfl hRb (kindsS_get b i) rfl) rfl ?_
   refine Mv ?_
   refine Vg ?_
   refine FL_val (Gives.build (out := typeCells ⟨kindAt b i, decide ((4 : Int) < i)⟩) (Fills.one rfl rfl rfl (by simp) rfl (Fills.one rfl rfl rfl (by simp) rfl Fills.nil))) rfl ?_
   refine FL_val (Gives.build (out := colCells (colAt b i)) (Fills.one rfl rfl rfl (by simp) rfl (Fills.many (us := typeCells ⟨kindAt b i, decide ((4 : Int) < i)⟩) rfl rfl (Nat.le_of_ble_eq_true rfl) rfl Fills.nil))) rfl ?_
   refine FL_buildSlice H20 (xs := [.tmp 25]) (out := [colAt b i].flatMap colCells) (Elems.many rfl rfl Elems.nil) rfl rfl rfl (fun bs w38 H38 k37 => ?_)
   have hln : ((List.range i).map (colAt b)).length = i := by simp
   refine FL_appendD H38 (news := [colAt b i]) At0 (by unfold maxLen; rw [hln]; simp; omega) (by rw [hln]; simp; omega) (cells_one (fun _ => rfl) _) (h := ?_)
   intro v2 w40 H40
   refine Am ?_
   refine FL_nil (Qblk_normal (Qseq_normal ?_))
   refine FW_region ?_
   refine Mv ?_
   refine FL_val (Gives.addI (c := ((i + 1 : Nat) : Int)) rfl rfl (by omega) (by omega)) rfl ?_
   refine Am ?_
   refine FL_nil ?_
   exact Qround_normal (i + 1, v2) ⟨rfl, rfl, rfl, rfl, trivial⟩ ⟨by dsimp only; omega, by dsimp only; rw [List.range_succ, List.map_append]; exact H40⟩ (by dsimp only; omega)
  ·have h10 : i = 10 := by omega
   subst h10
   refine FW_exit (Qseq_exit (Qround_exit (Qblk_exit (Qseq_normal ?_))))
   refine Sr ?_
   refine Mv ?_
   refine Am ?_
   refine Qn ?_
   refine FW_ret (Qfn_ret (hR := ?_))
   exact ⟨_, rfl, trivial, (H20.firsts (l := [_])).turn⟩
theorem rowOf_ok {l : List Int} {v : Value} (hl : RowIn w v intCells 1 l) (hx : ∀ x ∈ l, fits x) : Rets Tryz.prog 30 [v] w fun v' w' => ∃ x : Value, v' = x ∧ True ∧ Turn noB (rowD 34 3 cellCells x (rowS l)) w w' := by
 obtain ⟨A, m, rfl, ⟨hm, hm'⟩, hA⟩ := hl
 have H := Sep.start0 w
 refine rets1 Tryz.func30 rfl rfl rfl rfl ?_
 refine Sr ?_
 refine Am ?_
 refine Nx ?_
 refine Am ?_
 refine Qn ?_
 refine FW_seq ?_
 refine Sr ?_
 refine Am ?_
 refine Qn ?_
 refine FW_block ?_
 have H5 := Sep.nilD H 34 3 cellCells
 refine FW_loop' (fun x : Nat × Value => [(0, .slice A l.length m), (2, .slice none 0 0), (3, x.2), (4, I x.1)]) (fun x w' => x.1 ≤ 10 ∧ Sep w noB [rowD 34 3 cellCells x.2 ((List.range x.1).map (cellAt l))] w') (fun x _ => 10 - x.1) (0, .slice none 0 0) ⟨rfl, rfl, rfl, rfl, trivial⟩ ⟨Nat.zero_le _, H5⟩ (fun x τ w5 hI => ?_)
 obtain ⟨i, v0⟩ := x
 obtain ⟨hi, H5⟩ := hI
 dsimp only at hi H5
 obtain ⟨r, hr⟩ : ∃ r, r = (List.range i).map (cellAt l) := ⟨_, rfl⟩
 have hrl : r.length = i := by rw [hr]; simp
 rw [← hr] at H5
 try simp only [upds, like, upd_ds, und_ds]
 refine FW_seq ?_
 refine Sr ?_
 refine Mv ?_
 refine Vl ?_
 refine Qn ?_
 refine FW_condP rfl (fun hc8 => ?_) (fun hc8 => ?_)
 ·have hlt : i < 10 := by omega
  refine Sk ?_
  refine FW_seq ?_
  refine FW_block ?_
  refine Sr ?_
  refine Mv ?_
  refine Am ?_
  refine Qn ?_
  refine FW_cut (fun _ : Unit => [(0, .slice A l.length m), (2, .slice none 0 0), (3, v0), (4, I i), (5, I (seedNum l i))]) (fun _ w' => Sep w noB [rowD 34 3 cellCells v0 r] w') ?_ ?_
  ·refine Sr ?_
   refine Mv ?_
   refine Vs ?_
   refine Vg ?_
   refine Qn ?_
   refine FW_condP rfl (fun hc16 => ?_) (fun hc16 => ?_)
   ·have hl0 : 0 < l.length := by omega
    have hlm : i % l.length < l.length := Nat.mod_lt _ hl0
    obtain ⟨y, hy⟩ := get_some hlm
    have hnum : seedNum l i = y := by unfold seedNum; rw [if_pos hl0, getD_of hy]
    refine FW_region ?_
    refine Mv ?_
    refine Mv ?_
    refine Mv ?_
    refine Vs ?_
    refine FL_val (Gives.remN (b := l.length) rfl rfl (by omega)) rfl ?_
    refine FL_val (Gives.idxR (l := l) (enc := intCells) rfl rfl (hA.keep H5.kept) hlm) rfl ?_
    refine FL_val (Gives.loadW (f := 0) rfl (hA.keep H5.kept) hy rfl) rfl ?_
    refine Am ?_
    refine FL_nil ?_
    exact Qcut_normal () ⟨rfl, rfl, rfl, rfl, congrArg I hnum.symm, trivial⟩ H5
   ·have hnum : seedNum l i = i := by unfold seedNum; rw [if_neg (by omega)]
    refine FW_skip ?_
    exact Qcut_normal () ⟨rfl, rfl, rfl, rfl, congrArg I hnum.symm, trivial⟩ H5
  ·rintro _ τ w30 H30
   obtain ⟨k, hk⟩ : ∃ k, k = seedNum l i := ⟨_, rfl⟩
   rw [← hk]
   simp only [upds, like, upd_ds]
   refine Sr ?_
   refine Mv ?_
   refine FL_callQ H30 (bring_ok (k := k) (m := 4294967296) (by decide) (by decide)) (h := fun w33 H33 k32 => ?_)
   obtain ⟨r1, hr0⟩ : ∃ r, r = k % 4294967296 := ⟨_, rfl⟩
   rw [← hr0]
   refine FL_val (Gives.subI (c := r1 - 2147483648) rfl rfl rfl (by omega)) rfl ?_
   refine FL_val (Gives.build (out := cellCells ⟨false, r1 - 2147483648, []⟩) (Fills.one rfl rfl rfl (by simp) rfl Fills.nil)) rfl ?_
   refine FL_alloc H33 (h := ?_)
   intro b1 w37 H37 k36
   refine FL_storeAll H37 (h := ?_)
   intro w39 H39
   refine Qn ?_
   refine FW_cut (fun _ : CellM => [(0, .slice A l.length m), (2, .slice none 0 0), (3, v0), (4, I i), (5, I k), (6, .pointer (some ⟨b1, 0, none⟩))]) (fun c w' => c = baseAt i k ∧ Sep w noB [blk b1 (cellCells c) 34, rowD 34 3 cellCells v0 r] w') ?_ ?_
   ·refine Sr ?_
    refine Mv ?_
    refine FL_val (Gives.remN (b := 5) rfl rfl (by omega)) rfl ?_
    refine Qn ?_
    refine FW_block ?_
    refine Sr ?_
    refine Ve ?_
    refine Am ?_
    refine Qn ?_
    refine FW_condP rfl (fun hc45 => ?_) (fun hc45 => ?_)
    ·have hm : i % 5 = 1 := by omega
     refine FW_region ?_
     refine Mv ?_
     refine FL_callQ H39 (bring_ok (k := k) (m := 2) (by decide) (by decide)) (h := fun w49 H49 k48 => ?_)
     obtain ⟨r2, hr2⟩ : ∃ r, r = k % 2 := ⟨_, rfl⟩
     rw [← hr2]
     have fc : (⟨false, r2, []⟩ : CellM) = baseAt i k := by unfold baseAt; rw [if_pos hm, hr2]
     refine FL_val (Gives.build (out := cellCells ⟨false, r2, []⟩) (Fills.one rfl rfl rfl (by simp) rfl Fills.nil)) rfl ?_
     refine FL_storeAll H49 (h := ?_)
     intro w52 H52
     refine FL_nil (Qblk_normal ?_)
     exact Qcut_normal _ ⟨rfl, rfl, rfl, rfl, rfl, rfl, trivial⟩ ⟨fc, H52⟩
    ·have q1 := hc45
     refine Sr ?_
     refine Ve ?_
     refine Am ?_
     refine Qn ?_
     refine FW_condP rfl (fun hc57 => ?_) (fun hc57 => ?_)
     ·have hm : i % 5 = 2 := by omega
      refine FW_region ?_
      refine FL_buildSlice H39 (xs := [_, _, _, _, _]) (out := rowWords1.flatMap textCells) (Elems.one rfl rfl (Elems.one rfl rfl (Elems.one rfl rfl (Elems.one rfl rfl (Elems.one rfl rfl Elems.nil))))) rfl rfl rfl (fun bw w60 H60 k59 => ?_)
      refine Mv ?_
      refine FL_callQ H60 (bring_ok (k := k) (m := 5) (by decide) (by decide)) (h := fun w63 H63 k62 => ?_)
      obtain ⟨q, hq0⟩ : ∃ q : Nat, k % 5 = q := ⟨(k % 5).toNat, by omega⟩
      rw [hq0]
      have hq : q < rowWords1.length := by show q < 5; omega
      obtain ⟨y, hy⟩ := get_some hq
      have hRb : Rd w63 (some ⟨bw, 0, none⟩) textCells 1 rowWords1 := Sep.blkRow H63 At0 rfl
      refine FL_val (Gives.idxR (l := rowWords1) (enc := textCells) rfl rfl hRb hq) rfl ?_
      refine FL_val (Gives.loadW (f := 0) rfl hRb hy rfl) rfl ?_
      have H67 := H63.drop0
      refine FL_val (Gives.build (out := cellCells ⟨false, 0, y⟩) (Fills.one rfl rfl rfl (by simp) rfl Fills.nil)) rfl ?_
      have fc : (⟨false, 0, y⟩ : CellM) = baseAt i k := by unfold baseAt; rw [if_neg (by omega), if_pos hm, hq0, Int.toNat_natCast, getD_of hy]
      refine FL_storeAll H67 (h := ?_)
      intro w69 H69
      refine FL_nil (Qblk_normal ?_)
      exact Qcut_normal _ ⟨rfl, rfl, rfl, rfl, rfl, rfl, trivial⟩ ⟨fc, H69⟩
     ·have q2 := hc57
      refine Sr ?_
      refine Ve ?_
      refine Am ?_
      refine Qn ?_
      refine FW_condP rfl (fun hc74 => ?_) (fun hc74 => ?_)
      ·have hm : i % 5 = 3 := by omega
       refine FW_region ?_
       refine FL_buildSlice H39 (xs := [_, _, _, _]) (out := rowWords2.flatMap textCells) (Elems.one rfl rfl (Elems.one rfl rfl (Elems.one rfl rfl (Elems.one rfl rfl Elems.nil)))) rfl rfl rfl (fun bw w77 H77 k76 => ?_)
       refine Mv ?_
       refine FL_callQ H77 (bring_ok (k := k) (m := 4) (by decide) (by decide)) (h := fun w80 H80 k79 => ?_)
       obtain ⟨q, hq0⟩ : ∃ q : Nat, k % 4 = q := ⟨(k % 4).toNat, by omega⟩
       rw [hq0]
       have hq : q < rowWords2.length := by show q < 4; omega
       obtain ⟨y, hy⟩ := get_some hq
       have hRb : Rd w80 (some ⟨bw, 0, none⟩) textCells 1 rowWords2 := Sep.blkRow H80 At0 rfl
       refine FL_val (Gives.idxR (l := rowWords2) (enc := textCells) rfl rfl hRb hq) rfl ?_
       refine FL_val (Gives.loadW (f := 0) rfl hRb hy rfl) rfl ?_
       have H84 := H80.drop0
       refine FL_val (Gives.build (out := cellCells ⟨false, 0, y⟩) (Fills.one rfl rfl rfl (by simp) rfl Fills.nil)) rfl ?_
       have fc : (⟨false, 0, y⟩ : CellM) = baseAt i k := by unfold baseAt; rw [if_neg (by omega), if_neg (by omega), if_pos hm, hq0, Int.toNat_natCast, getD_of hy]
       refine FL_storeAll H84 (h := ?_)
       intro w86 H86
       refine FL_nil (Qblk_normal ?_)
       exact Qcut_normal _ ⟨rfl, rfl, rfl, rfl, rfl, rfl, trivial⟩ ⟨fc, H86⟩
      ·have q3 := hc74
       refine Sr ?_
       refine Ve ?_
       refine Am ?_
       refine Qn ?_
       refine FW_condP rfl (fun hc91 => ?_) (fun hc91 => ?_)
       ·have hm : i % 5 = 4 := by omega
        refine FW_region ?_
        refine Mv ?_
        refine FL_val (Gives.build (out := cellCells ⟨false, k, []⟩) (Fills.one rfl rfl rfl (by simp) rfl Fills.nil)) rfl ?_
        have fc : (⟨false, k, []⟩ : CellM) = baseAt i k := by unfold baseAt; rw [if_neg (by omega), if_neg (by omega), if_neg (by omega), if_pos hm]
        refine FL_storeAll H39 (h := ?_)
        intro w96 H96
        refine FL_nil (Qblk_normal ?_)
        exact Qcut_normal _ ⟨rfl, rfl, rfl, rfl, rfl, rfl, trivial⟩ ⟨fc, H96⟩
       ·have fc : (⟨false, r1 - 2147483648, []⟩ : CellM) = baseAt i k := by unfold baseAt; rw [if_neg (by omega), if_neg (by omega), if_neg (by omega), if_neg (by omega), hr0]
        refine FW_skip (Qblk_normal ?_)
        exact Qcut_normal _ ⟨rfl, rfl, rfl, rfl, rfl, rfl, trivial⟩ ⟨fc, H39⟩
   ·rintro c τ w101 ⟨hc, H101⟩
    simp only [upds, like, upd_ds]
    refine FW_cut (fun _ : CellM => [(0, .slice A l.length m), (2, .slice none 0 0), (3, v0), (4, I i), (6, .pointer (some ⟨b1, 0, none⟩))]) (fun c w' => c = cellAt l i ∧ Sep w noB [blk b1 (cellCells c) 34, rowD 34 3 cellCells v0 r] w') ?_ ?_
    ·refine Sr ?_
     refine Mv ?_
     refine Vg ?_
     refine Mv ?_
     refine FL_splitP (t := 55) rfl (fun hs106 => ?_) (fun hs106 => ?_)
     ·have h4 := hs106
      refine On ?_
      refine Mv ?_
      refine On ?_
      refine FL_val (Gives.rem rfl rfl (by decide)) rfl ?_
      refine On ?_
      refine Ve ?_
      refine Pt ?_
      refine Qn ?_
      refine FW_condP rfl (fun hc112 => ?_) (fun hc112 => ?_)
      ·have h3 := hc112
       refine FW_region ?_
       refine FL_val (Gives.build (out := cellCells cellNull) (Fills.one rfl rfl rfl (by simp) rfl Fills.nil)) rfl ?_
       have fd : cellNull = cellAt l i := by unfold cellAt; rw [← hk, if_pos ⟨h4, h3⟩]
       refine FL_storeAll H101 (h := ?_)
       intro w116 H116
       refine FL_nil ?_
       exact Qcut_normal _ ⟨rfl, rfl, rfl, rfl, rfl, trivial⟩ ⟨fd, H116⟩
      ·have fd : c = cellAt l i := by unfold cellAt; rw [← hk, if_neg (fun h => hc112 h.2)]; exact hc
       refine FW_skip ?_
       exact Qcut_normal _ ⟨rfl, rfl, rfl, rfl, rfl, trivial⟩ ⟨fd, H101⟩
     ·have fd : c = cellAt l i := by unfold cellAt; rw [← hk, if_neg (fun h => hs106 h.1)]; exact hc
      refine Of ?_
      refine Of ?_
      refine Of ?_
      refine Pf ?_
      refine Qn ?_
      refine FW_cond_false rfl ?_
      refine FW_skip ?_
      exact Qcut_normal _ ⟨rfl, rfl, rfl, rfl, rfl, trivial⟩ ⟨fd, H101⟩
    ·rintro c τ w124 ⟨hc, H124⟩
     simp only [upds, like, upd_ds]
     refine FW_region ?_
     refine Mv ?_
     refine FL_loadAll H124 (h := ?_)
     refine FL_buildSlice H124 (xs := [.tmp 62]) (out := [c].flatMap cellCells) (Elems.many rfl rfl Elems.nil) rfl rfl rfl (fun bs w128 H128 k127 => ?_)
     refine FL_appendD H128 (news := [c]) At1 (by unfold maxLen; simp; omega) (by simp; omega) (cells_one (fun _ => rfl) _) (h := ?_)
     intro v2 w130 H130
     refine Am ?_
     refine FL_nil (Qblk_normal (Qseq_normal ?_))
     refine FW_region ?_
     refine Mv ?_
     refine FL_val (Gives.addI (c := ((i + 1 : Nat) : Int)) rfl rfl (by omega) (by omega)) rfl ?_
     refine Am ?_
     refine FL_nil ?_
     exact Qround_normal (i + 1, v2) ⟨rfl, rfl, rfl, rfl, trivial⟩ ⟨by dsimp only; omega, by dsimp only; rw [List.range_succ, List.map_append, ← hr, List.map_cons, List.map_nil, ← hc]; exact H130.drop0⟩ (by dsimp only; omega)
 ·have h10 : i = 10 := by omega
  subst h10
  rw [hr] at H5
  refine FW_exit (Qseq_exit (Qround_exit (Qblk_exit (Qseq_normal ?_))))
  refine Sr ?_
  refine Mv ?_
  refine Am ?_
  refine Qn ?_
  refine FW_ret (Qfn_ret (hR := ?_))
  exact ⟨_, rfl, trivial, H5.turn⟩
end
end Go.Proofs.YtmkaahkbhdlniaaGreatDoor
