/-
 The law's examples, all of them, walked.
-/
import Derived.Test.YtmkaahkbhdlniaaGreatDoorAg21
import Derived.Test.YtmkaahkbhdlniaaGreatDoorAg6
import Derived.ProofKit
import Derived.Carry
import Derived.ChangeSame
import Derived.Deep.Slices
import Derived.Deep.Fields
import Derived.Test.YtmkaahkbhdlniaaGreatDoorAg17
import Derived.Test.YtmkaahkbhdlniaaGreatDoorRows
import Derived.PinnedBridge
import Derived.Lib.LaidU8
import Derived.Stop.LaidErr
import Derived.Deep.DeepHandedRow
import Derived.Lay
import Derived.MakeChecks
import Derived.Test.YtmkaahkbhdlniaaGreatDoorAg16
import Derived.ChangeMaps5
import Derived.OpenShut
import Derived.JoinedOf
set_option linter.unusedVariables false
set_option linter.unusedSimpArgs false
namespace Go.Proofs.YtmkaahkbhdlniaaGreatDoor
open Go Go.Mw Go.Lib
set_option maxRecDepth 4000
section
variable {w : World}
theorem works_ok (hT : TabsX w) : Rets Tryz.prog 27 [] w fun v w' => v = .bool true ∧ Kept noB w w' := by
 have H := Sep.start0 w
 refine rets0 Tryz.func27 rfl rfl rfl ?_
 refine Sr ?_
 refine Am ?_
 refine Nx ?_
 refine FL_val (Gives.build (out := cellCells cellNull) (Fills.one rfl rfl rfl (by simp) rfl Fills.nil)) rfl ?_
 refine FL_alloc H (h := ?_)
 intro b1 w4 H4 k3
 refine FL_storeAll H4 (h := ?_)
 intro w6 H6
 refine Qn ?_
 refine FW_seq ?_
 refine Sr ?_
 refine FL_val (Gives.build (out := cellCells ⟨false, 7, []⟩) (Fills.one rfl rfl rfl (by simp) rfl Fills.nil)) rfl ?_
 refine FL_callQ H6 (gives_ok tx1 3 false ⟨false, 7, []⟩ 0 (by decide) gives1 (hT.keep H6.kept)) (h := fun w9 H9 k8 => ?_)
 refine FL_val (Gives.not rfl) rfl ?_
 refine Mv ?_
 refine FL_split (t := 10) rfl (fun hs12 => ?_) (fun hs12 => ?_)
 ·exact Bool.noConfusion hs12
 ·refine On ?_
  refine FL_loadAll H9 (h := ?_)
  refine On ?_
  refine FL_callQ H9 (gives_ok tx2 1 true cellNull 0 (by decide) gives2 (hT.keep H9.kept)) (h := fun w16 H16 k15 => ?_)
  refine On ?_
  refine FL_val (Gives.not rfl) rfl ?_
  refine Pf ?_
  refine Mv ?_
  refine FL_split (t := 15) rfl (fun hs20 => ?_) (fun hs20 => ?_)
  ·exact Bool.noConfusion hs20
  ·refine On ?_
   refine FL_val (Gives.build (out := cellCells ⟨false, 1, []⟩) (Fills.one rfl rfl rfl (by simp) rfl Fills.nil)) rfl ?_
   refine On ?_
   refine FL_callQ H16 (gives_ok tx3 1 false ⟨false, 1, []⟩ 0 (by decide) gives3 (hT.keep H16.kept)) (h := fun w24 H24 k23 => ?_)
   refine On ?_
   refine FL_val (Gives.not rfl) rfl ?_
   refine Pf ?_
   refine Mv ?_
   refine FL_split (t := 20) rfl (fun hs28 => ?_) (fun hs28 => ?_)
   ·exact Bool.noConfusion hs28
   ·refine On ?_
    refine FL_val (Gives.build (out := cellCells ⟨false, 1, []⟩) (Fills.one rfl rfl rfl (by simp) rfl Fills.nil)) rfl ?_
    refine On ?_
    refine FL_callQ H24 (gives_ok tx4 1 true ⟨false, 1, []⟩ 0 (by decide) gives4 (hT.keep H24.kept)) (h := fun w32 H32 k31 => ?_)
    refine On ?_
    refine FL_val (Gives.not rfl) rfl ?_
    refine Pf ?_
    refine Mv ?_
    refine FL_split (t := 25) rfl (fun hs36 => ?_) (fun hs36 => ?_)
    ·exact Bool.noConfusion hs36
    ·refine On ?_
     refine FL_val (Gives.build (out := cellCells ⟨false, 0, []⟩) Fills.nil) rfl ?_
     refine On ?_
     refine FL_callQ H32 (gives_ok tx5 1 true ⟨false, 0, []⟩ 0 (by decide) gives5 (hT.keep H32.kept)) (h := fun w40 H40 k39 => ?_)
     refine On ?_
     refine FL_val (Gives.not rfl) rfl ?_
     refine Pf ?_
     refine Mv ?_
     refine FL_split (t := 30) rfl (fun hs44 => ?_) (fun hs44 => ?_)
     ·exact Bool.noConfusion hs44
     ·refine On ?_
      refine FL_val (Gives.build (out := cellCells ⟨false, 2, []⟩) (Fills.one rfl rfl rfl (by simp) rfl Fills.nil)) rfl ?_
      refine On ?_
      refine FL_callQ H40 (gives_ok tx6 3 false ⟨false, 2, []⟩ 0 (by decide) gives6 (hT.keep H40.kept)) (h := fun w48 H48 k47 => ?_)
      refine On ?_
      refine FL_val (Gives.not rfl) rfl ?_
      refine Pf ?_
      refine Mv ?_
      refine FL_split (t := 35) rfl (fun hs52 => ?_) (fun hs52 => ?_)
      ·exact Bool.noConfusion hs52
      ·refine On ?_
       refine FL_val (Gives.build (out := cellCells ⟨false, 0, []⟩) Fills.nil) rfl ?_
       refine On ?_
       refine FL_callQ H48 (gives_ok tx7 3 false ⟨false, 0, []⟩ 50 (by decide) gives7 (hT.keep H48.kept)) (h := fun w56 H56 k55 => ?_)
       refine On ?_
       refine FL_val (Gives.not rfl) rfl ?_
       refine Pf ?_
       refine Mv ?_
       refine FL_split (t := 40) rfl (fun hs60 => ?_) (fun hs60 => ?_)
       ·exact Bool.noConfusion hs60
       ·refine On ?_
        refine FL_val (Gives.build (out := cellCells ⟨false, 0, []⟩) Fills.nil) rfl ?_
        refine On ?_
        refine FL_callQ H56 (gives_ok tx8 1 false ⟨false, 0, []⟩ 50 (by decide) gives8 (hT.keep H56.kept)) (h := fun w64 H64 k63 => ?_)
        refine On ?_
        refine FL_val (Gives.not rfl) rfl ?_
        refine Pf ?_
        refine Qn ?_
        refine FW_cond rfl (fun hc67 => ?_) (fun hc67 => ?_)
        ·exact Bool.noConfusion hc67
        ·refine Sk ?_
         refine FW_seq ?_
         refine Sr ?_
         refine FL_callQ H64 (none_ok nx1 (by decide) none1 (hT.keep H64.kept)) (h := fun w70 H70 k69 => ?_)
         refine FL_val (Gives.not rfl) rfl ?_
         refine Mv ?_
         refine FL_split (t := 47) rfl (fun hs73 => ?_) (fun hs73 => ?_)
         ·exact Bool.noConfusion hs73
         ·refine On ?_
          refine FL_callQ H70 (none_ok nx2 (by decide) none2 (hT.keep H70.kept)) (h := fun w76 H76 k75 => ?_)
          refine On ?_
          refine FL_val (Gives.not rfl) rfl ?_
          refine Pf ?_
          refine Mv ?_
          refine FL_split (t := 51) rfl (fun hs80 => ?_) (fun hs80 => ?_)
          ·exact Bool.noConfusion hs80
          ·refine On ?_
           refine FL_callQ H76 (none_ok nx3 (by decide) none3 (hT.keep H76.kept)) (h := fun w83 H83 k82 => ?_)
           refine On ?_
           refine FL_val (Gives.not rfl) rfl ?_
           refine Pf ?_
           refine Mv ?_
           refine FL_split (t := 55) rfl (fun hs87 => ?_) (fun hs87 => ?_)
           ·exact Bool.noConfusion hs87
           ·refine On ?_
            refine FL_callQ H83 (none_ok nx4 (by decide) none4 (hT.keep H83.kept)) (h := fun w90 H90 k89 => ?_)
            refine On ?_
            refine FL_val (Gives.not rfl) rfl ?_
            refine Pf ?_
            refine Mv ?_
            refine FL_split (t := 59) rfl (fun hs94 => ?_) (fun hs94 => ?_)
            ·exact Bool.noConfusion hs94
            ·refine On ?_
             refine FL_callQ H90 (none_ok nx5 (by decide) none5 (hT.keep H90.kept)) (h := fun w97 H97 k96 => ?_)
             refine On ?_
             refine FL_val (Gives.not rfl) rfl ?_
             refine Pf ?_
             refine Mv ?_
             refine FL_split (t := 63) rfl (fun hs101 => ?_) (fun hs101 => ?_)
             ·exact Bool.noConfusion hs101
             ·refine On ?_
              refine FL_val (Gives.build (out := stepCells ⟨1, 3, []⟩) (Fills.one rfl rfl rfl (by simp) rfl (Fills.one rfl rfl rfl (by simp) rfl Fills.nil))) rfl ?_
              refine On ?_
              refine FL_val (Gives.build (out := stepCells ⟨1, 1, []⟩) (Fills.one rfl rfl rfl (by simp) rfl (Fills.one rfl rfl rfl (by simp) rfl Fills.nil))) rfl ?_
              refine On ?_
              refine FL_val (Gives.build (out := stepCells ⟨1, 1, []⟩) (Fills.one rfl rfl rfl (by simp) rfl (Fills.one rfl rfl rfl (by simp) rfl Fills.nil))) rfl ?_
              refine On ?_
              refine FL_val (Gives.build (out := stepCells ⟨7, 0, []⟩) (Fills.one rfl rfl rfl (by simp) rfl Fills.nil)) rfl ?_
              refine On ?_
              refine FL_val (Gives.build (out := stepCells ⟨1, 9, []⟩) (Fills.one rfl rfl rfl (by simp) rfl (Fills.one rfl rfl rfl (by simp) rfl Fills.nil))) rfl ?_
              refine On ?_
              refine FL_buildSlice H97 (xs := [.tmp 64, .tmp 65, .tmp 66, .tmp 67, .tmp 68]) (out := useL.flatMap stepCells) (Elems.many rfl rfl (Elems.many rfl rfl (Elems.many rfl rfl (Elems.many rfl rfl (Elems.many rfl rfl Elems.nil))))) rfl rfl rfl (fun ba w109 H109 k108 => ?_)
              refine On ?_
              refine FL_call (usesE_ok (l := useL) ⟨some ⟨ba, 0, none⟩, 5, rfl, ⟨Nat.le_refl _, by decide⟩, Sep.blkRow H109 At0 rfl⟩ (by decide)) rfl rfl (fun v' w111 hv => ?_)
              obtain ⟨x, rfl, _, hkk, F1, hq, hsub⟩ := hv
              have H111 := H109.new hkk hq (fun b hb => (hsub b hb).resolve_left id)
              obtain ⟨B, cb, rfl, hcb, hB⟩ := Sep.formD H111 At0
              refine On ?_
              refine FL_buildSlice H111 (xs := [_, _, _]) (out := [1, 3, 9].flatMap intCells) (Elems.one rfl rfl (Elems.one rfl rfl (Elems.one rfl rfl Elems.nil))) rfl rfl rfl (fun bb w113 H113 k112 => ?_)
              refine On ?_
              refine FL_callQ H113 (intsEq_ok (a := usesS useL) (b := [1, 3, 9]) ⟨B, cb, rfl, ⟨hcb, Sep.capD H113 At1⟩, Sep_rdD H113 At1⟩ ⟨some ⟨bb, 0, none⟩, 3, rfl, ⟨Nat.le_refl _, by decide⟩, Sep.blkRow H113 At0 rfl⟩) (h := fun w115 H115 k114 => ?_)
              rw [decide_eq_true use_eq]
              refine On ?_
              refine FL_val (Gives.not rfl) rfl ?_
              refine Pf ?_
              refine Qn ?_
              refine FW_cond rfl (fun hc118 => ?_) (fun hc118 => ?_)
              ·exact Bool.noConfusion hc118
              ·refine Sk ?_
               refine Sr ?_
               refine FL_buildSlice H115 (xs := [_, _, _, _, _, _]) (out := badW.flatMap textCells) (Elems.one rfl rfl (Elems.one rfl rfl (Elems.one rfl rfl (Elems.one rfl rfl (Elems.one rfl rfl (Elems.one rfl rfl Elems.nil)))))) rfl rfl rfl (fun bd w121 H121 k120 => ?_)
               refine Am ?_
               refine Qn ?_
               refine FW_seq ?_
               refine Sr ?_
               refine Am ?_
               refine Qn ?_
               refine FW_block ?_
               refine FW_loop' (fun i : Nat => [(2, .slice (some ⟨bd, 0, none⟩) 6 6), (3, I i)]) (fun i w' => i ≤ 6 ∧ Sep w noB [blk bd (badW.flatMap textCells) 9] w') (fun i _ => 6 - i) 0 ⟨rfl, rfl, trivial⟩ ⟨Nat.zero_le _, H121.first⟩ (fun i τ w125 hI => ?_)
               obtain ⟨hi, H125⟩ := hI
               try simp only [upds, like, upd_ds, und_ds]
               refine FW_seq ?_
               refine Sr ?_
               refine Mv ?_
               refine Mv ?_
               refine Vs ?_
               refine Vl ?_
               refine Qn ?_
               refine FW_condP rfl (fun hc130 => ?_) (fun hc130 => ?_)
               ·have hlt : i < badW.length := by show i < 6; omega
                obtain ⟨x, hx⟩ := get_some hlt
                obtain ⟨hpx, hxl⟩ := bad_parse x (List.mem_of_getElem? hx)
                have hRb : Rd w125 (some ⟨bd, 0, none⟩) textCells 1 badW := Sep.blkRow H125 At0 rfl
                refine Sk ?_
                refine FW_seq ?_
                refine FW_block ?_
                refine Sr ?_
                refine Mv ?_
                refine Mv ?_
                refine FL_val (Gives.idxR (l := badW) (enc := textCells) rfl rfl hRb hlt) rfl ?_
                refine FL_val (Gives.loadW (f := 0) rfl hRb hx rfl) rfl ?_
                refine FL_call (parseE_ok x (.inl (by omega)) (by omega) (hT.keep H125.kept)) rfl rfl (fun v' w137 hv => ?_)
                obtain ⟨y, rfl, _, hkk, F1, hq, hsub⟩ := hv
                have H137 := H125.new hkk hq (fun b hb => (hsub b hb).resolve_left id)
                rw [hpx] at H137
                obtain ⟨B2, cb2, rfl, hcb2, hB2⟩ := Sep.formD H137 At0
                rw [hpx]
                refine Mv ?_
                refine Vx ?_
                refine Vx ?_
                refine Am ?_
                refine Am ?_
                refine Nx ?_
                refine Mv ?_
                refine Vn ?_
                refine Mv ?_
                refine FL_splitP (t := 92) rfl (fun hs146 => ?_) (fun hs146 => ?_)
                ·exact (hs146 (by first | trivial | rfl)).elim
                ·refine On ?_
                 refine Mv ?_
                 refine On ?_
                 refine Vs ?_
                 refine On ?_
                 refine Vn ?_
                 refine Pf ?_
                 refine Qn ?_
                 refine FW_condP rfl (fun hc152 => ?_) (fun hc152 => ?_)
                 ·exact (hc152 (by first | trivial | rfl)).elim
                 ·refine FW_skip (Qblk_normal (Qseq_normal ?_))
                  refine FW_region ?_
                  refine Mv ?_
                  refine FL_val (Gives.addI (c := ((i + 1 : Nat) : Int)) rfl rfl (by omega) (by omega)) rfl ?_
                  refine Am ?_
                  refine FL_nil ?_
                  exact Qround_normal (i + 1) ⟨rfl, rfl, trivial⟩ ⟨by omega, H137.front1.first⟩ (by omega)
               ·refine FW_exit (Qseq_exit (Qround_exit (Qblk_exit (Qseq_normal ?_))))
                refine Sr ?_
                refine Am ?_
                refine Qn ?_
                refine FW_ret (Qfn_ret (hR := ?_))
                exact ⟨rfl, H125.kept⟩
end
end Go.Proofs.YtmkaahkbhdlniaaGreatDoor
/-
 Cells of rows that are owned are written; the law's cuts of its arguments, walked.
-/
namespace Go.Mw
open Go.RowKit
section
variable {P : Program} {r : Option Nat} {n : Nat} {ops : Array Oper} {Q : Post} {rest : List Oper} {σ : St} {w w₀ : World} {S : Nat → Prop} {rs : List HP} {put : HP → List HP} {ty : TypeId} {pos : String} {after : Array Edge}
variable {α : Type} {enc : α → List Value} {k e c : Nat} {l : List α} {A : Option Addr}
theorem Gives.minE {ρ : Operand → Value} {x y : Operand} {kd : IntKind} {a b m : Int} {ts : Array TypeId} (hx : ρ x = .int kd a) (hy : ρ y = .int kd b) (he : Min.min a b = m) : Gives P ρ (.call { callee := .builtin .min, args := #[x, y], argTypes := ts }) ty w (.int kd m) w := by subst he; exact Gives.min hx hy
end
end Go.Mw
namespace Go.Proofs.YtmkaahkbhdlniaaGreatDoor
open Go Go.Mw Go.Lib
set_option maxRecDepth 4000
theorem min_take (s : List UInt8) (k : Nat) : Min.min ((s.length : Nat) : Int) (k : Int) = (((s.take k).length : Nat) : Int) := by
 rw [List.length_take]
 omega
theorem take_take' (s : List UInt8) (k : Nat) : s.take (s.take k).length = s.take k := by
 rw [List.length_take]
 by_cases h : k ≤ s.length
 ·rw [Nat.min_eq_left h]
 ·rw [Nat.min_eq_right (by omega), List.take_length, List.take_of_length_le (by omega)]
section
variable {w : World}
end
end Go.Proofs.YtmkaahkbhdlniaaGreatDoor
/-
 The law ExprTexts, walked.
-/
namespace Go.Proofs.YtmkaahkbhdlniaaGreatDoor
open Go Go.Mw Go.Lib
set_option maxRecDepth 4000
theorem rowIn_own {α : Type} {enc : α → List Value} {k e c : Nat} [EncK enc k] {l : List α} {A : Option Addr} {w w₀ : World} {S : Nat → Prop} {rs : List HP} {put : HP → List HP} (H : Mw.Sep w₀ S rs w) (hat : At rs (rowD e k enc (.slice A l.length c) l) put) (hc : l.length ≤ c) : RowIn w (.slice A l.length c) enc k l :=
 ⟨A, c, rfl, ⟨hc, Sep.capD H hat⟩, Sep_rdD H hat⟩
section
variable {w : World}
end
end Go.Proofs.YtmkaahkbhdlniaaGreatDoor
/-
 The law ExprEvals, walked.
-/
namespace Go.Proofs.YtmkaahkbhdlniaaGreatDoor
open Go Go.Mw Go.Lib
set_option maxRecDepth 4000
section
variable {w : World}
end
end Go.Proofs.YtmkaahkbhdlniaaGreatDoor
/-
 The columns and rows of the statements on drawn expressions, and what such an expression gives, told plainly. No program stands here.
-/
namespace Go.Proofs.YtmkaahkbhdlniaaGreatDoor
open Go Go.Mw Go.Lib
set_option maxRecDepth 4000
def wholeK (b : Bool) : Int := if b then 3 else 2
def kindsS (b : Bool) : List Int := [wholeK b, 1, 4, 5, 3]
def kindAt (b : Bool) (i : Nat) : Int := (kindsS b).getD (i % 5) 0
def colAt (b : Bool) (i : Nat) : ColM := ⟨((i + 1 : Nat) : Int), [], ⟨kindAt b i, decide ((4 : Int) < i)⟩, cell0⟩
def colsS (b : Bool) : List ColM := (List.range 10).map (colAt b)
/-- Steps that put one cell of a type on any stack, in either columns. -/
structure GoodE (k : Int) (n : Bool) (l : List StepM) : Prop where
 may : ∀ x ∈ l, mayS x = true ∧ fits x.n
 run : ∀ b st, runT (colsS b) st l = some (st ++ [⟨k, n⟩])
/-- A row for the first of these columns. -/
structure RowTo (m : Nat) (r : List CellM) : Prop where
 len : r.length = m
 fit : RowFits r
 ok : ∀ b (i : Nat) c, r[i]? = some c → okC (colAt b i).type c
theorem RowTo.nil : RowTo 0 [] := ⟨rfl, fun _ h => absurd h List.not_mem_nil, fun _ i c h => by simp at h⟩
theorem RowTo.push {i : Nat} {r : List CellM} {c : CellM} (h : RowTo i r) (hc : fits c.n ∧ ∀ b, okC (colAt b i).type c) : RowTo (i + 1) (r ++ [c]) := by
 refine ⟨by rw [List.length_append, h.len]; rfl, fun y hy => ?_, fun b j d hd => ?_⟩
 ·rcases List.mem_append.1 hy with h1 | h1
  ·exact h.fit y h1
  ·rw [List.mem_singleton.1 h1]; exact hc.1
 ·rcases Nat.lt_or_ge j r.length with hj | hj
  ·rw [List.getElem?_append_left hj] at hd; exact h.ok b j d hd
  ·rw [List.getElem?_append_right hj] at hd
   cases hk : j - r.length with
   | zero =>
    rw [hk] at hd
    have e : j = i := by have := h.len; omega
    simp only [List.getElem?_cons_zero, Option.some.injEq] at hd
    rw [e, ← hd]; exact hc.2 b
   | succ m => rw [hk] at hd; simp at hd
/-! Wider columns, and cells that are not used. -/
/-! Expressions one behind the other. -/
/-! What is drawn: of a kind, and so deep. -/
end Go.Proofs.YtmkaahkbhdlniaaGreatDoor
/-
 What a step that takes two makes of two cells, by halves of numbers, told plainly. No program stands here.
-/
namespace Go.Proofs.YtmkaahkbhdlniaaGreatDoor
open Go Go.Mw Go.Lib
set_option maxRecDepth 4000
end Go.Proofs.YtmkaahkbhdlniaaGreatDoor
/-
 The known expressions' columns and rows, walked.
-/
namespace Go.Proofs.YtmkaahkbhdlniaaGreatDoor
open Go Go.Mw Go.Lib
set_option maxRecDepth 4000
section
variable {w : World}
end
end Go.Proofs.YtmkaahkbhdlniaaGreatDoor
/-
 Drawn expressions: the numbers, and the steps that are drawn of them, walked.
-/
namespace Go.Mw
open Go.RowKit
section
variable {P : Program} {r : Option Nat} {n : Nat} {ops : Array Oper} {Q : Post} {rest : List Oper} {σ : St} {w w₀ : World} {S : Nat → Prop} {rs : List HP} {put : HP → List HP} {ty : TypeId} {pos : String} {after : Array Edge} {p q : HP}
end
end Go.Mw
namespace Go.Proofs.YtmkaahkbhdlniaaGreatDoor
open Go Go.Mw Go.Lib
set_option maxRecDepth 4000
/-- What is left of a row of numbers. -/
def SufV (v v' : Value) : Prop := ∀ (w : World) ns, RowIn w v intCells 1 ns → ∃ ns', RowIn w v' intCells 1 ns'
theorem SufV.refl (v : Value) : SufV v v := fun _ ns h => ⟨ns, h⟩
theorem SufV.trans {a b c : Value} (h : SufV a b) (k : SufV b c) : SufV a c := fun w ns h1 => let ⟨ns', h2⟩ := h w ns h1; k w ns' h2
section
variable {w : World} {F : Nat → Prop} {b : Nat} {v0 : Value}
end
end Go.Proofs.YtmkaahkbhdlniaaGreatDoor
/-
 Drawn expressions, walked.
-/
namespace Go.Proofs.YtmkaahkbhdlniaaGreatDoor
open Go Go.Mw Go.Lib
set_option maxRecDepth 4000
section
variable {w : World} {F : Nat → Prop} {b : Nat} {v0 : Value}
end
end Go.Proofs.YtmkaahkbhdlniaaGreatDoor
/-
 What is drawn of a seed; the laws ExprOf and ExprWider, walked.
-/
namespace Go.Proofs.YtmkaahkbhdlniaaGreatDoor
open Go Go.Mw Go.Lib
set_option maxRecDepth 4000
section
variable {w : World}
end
end Go.Proofs.YtmkaahkbhdlniaaGreatDoor
/-
 Structs are written into rows that are owned; the law ExprUnused, walked.
-/
namespace Go.Mw
open Go.RowKit
section
variable {P : Program} {r : Option Nat} {n : Nat} {ops : Array Oper} {Q : Post} {rest : List Oper} {σ : St} {w w₀ : World} {S : Nat → Prop} {rs : List HP} {put : HP → List HP} {ty : TypeId} {pos : String} {after : Array Edge} {lv : List Bool} {pd : List (Nat × Bool)} {guard : Option (Nat × Bool)}
variable {α : Type} {enc : α → List Value} {k e c : Nat} {l : List α} {A : Option Addr}
end
end Go.Mw
namespace Go.Proofs.YtmkaahkbhdlniaaGreatDoor
open Go Go.Mw Go.Lib
set_option maxRecDepth 4000
theorem RowTo.set {m i : Nat} {r : List CellM} {c : CellM} (h : RowTo m r) (hc : fits c.n ∧ ∀ b, okC (colAt b i).type c) : RowTo m (r.set i c) := by
 refine ⟨by rw [List.length_set]; exact h.len, fun y hy => ?_, fun b j d hd => ?_⟩
 ·rcases List.mem_or_eq_of_mem_set hy with h1 | h1
  ·exact h.fit y h1
  ·rw [h1]; exact hc.1
 ·by_cases hj : i = j
  ·subst hj
   rw [List.getElem?_set_self' ] at hd
   cases hg : r[i]? with
   | none => rw [hg] at hd; cases hd
   | some z => rw [hg] at hd; simp at hd; rw [← hd]; exact hc.2 b
  ·rw [List.getElem?_set_ne hj] at hd; exact h.ok b j d hd
section
variable {w : World}
end
end Go.Proofs.YtmkaahkbhdlniaaGreatDoor
/-
 The law ExprOne, walked.
-/
namespace Go.Proofs.YtmkaahkbhdlniaaGreatDoor
open Go Go.Mw Go.Lib
set_option maxRecDepth 4000
section
variable {w : World}
end
end Go.Proofs.YtmkaahkbhdlniaaGreatDoor
/-
 What a step that takes two makes, by halves, walked.
-/
namespace Go.Proofs.YtmkaahkbhdlniaaGreatDoor
open Go Go.Mw Go.Lib
set_option maxRecDepth 4000
section
variable {w : World}
end
end Go.Proofs.YtmkaahkbhdlniaaGreatDoor
/-
 The law ExprParts, walked.
-/
namespace Go.Proofs.YtmkaahkbhdlniaaGreatDoor
open Go Go.Mw Go.Lib
set_option maxRecDepth 4000
section
variable {w : World}
end
end Go.Proofs.YtmkaahkbhdlniaaGreatDoor
/-
 The laws ExprBack and ExprAgain, walked.
-/
namespace Go.Proofs.YtmkaahkbhdlniaaGreatDoor
open Go Go.Mw Go.Lib
set_option maxRecDepth 4000
theorem parse_err {s : List UInt8} (h : (parseS s).2 ≠ 0) (hl : s.length ≤ 1048576) : (parseS s).1.length = 0 ∧ ((parseS s).2 = 4 ∨ 63 < s.count 32) := by
 unfold parseS at h ⊢
 split
 ·rename_i h1
  exact ⟨rfl, .inr (by omega)⟩
 ·rename_i h1
  rw [if_neg h1] at h
  split
  ·rename_i h2; rw [if_pos h2] at h; exact absurd rfl h
  ·rename_i h2
   rw [if_neg h2] at h
   split
   ·rename_i l h3; rw [h3] at h; exact absurd rfl h
   ·exact ⟨rfl, .inl rfl⟩
theorem text_again {s : List UInt8} (h : (parseS s).2 = 0) : textS (parseS s).1 = (s, 0) := text_parse (by rw [← h])
section
variable {w : World}
theorem exprAgain_ok (s : List UInt8) (hT : TabsX w) : Rets Tryz.prog 11 [str s] w fun v w' => v = .bool true ∧ Kept noB w w' := by
 have H := Sep.start0 w
 obtain ⟨t, ht⟩ : ∃ t, t = s.take 600 := ⟨_, rfl⟩
 have htl : t.length ≤ 600 := by rw [ht, List.length_take]; omega
 refine rets1 Tryz.func11 rfl rfl rfl rfl ?_
 refine Sr ?_
 refine Am ?_
 refine Nx ?_
 refine Mv ?_
 refine Mv ?_
 refine Vt ?_
 refine FL_val (Gives.minE rfl rfl (min_take s 600)) rfl ?_
 refine FL_val (Gives.sliceToT (l := s) (i := (s.take 600).length) rfl rfl (by rw [List.length_take]; omega)) rfl ?_
 rw [take_take', ← ht]
 refine Am ?_
 refine Nx ?_
 refine Mv ?_
 refine FL_callN H (parseE_ok t (.inl (by omega)) (by omega) (hT.keep H.kept)) (h := fun x w10 _ H10 k9 => ?_)
 obtain ⟨B2, c2, rfl, hc2, hB2⟩ := Sep.formD H10 At0
 refine Mv ?_
 refine Vx ?_
 refine Vx ?_
 refine Am ?_
 refine Am ?_
 refine Qn ?_
 refine FW_seq ?_
 refine Sr ?_
 refine Mv ?_
 refine Vn ?_
 refine Qn ?_
 refine FW_condP rfl (fun hc18 => ?_) (fun hc18 => ?_)
 ·obtain ⟨hl0, hcnt⟩ := parse_err hc18 (by omega)
  refine Sr ?_
  refine Mv ?_
  refine Vs ?_
  refine Ve ?_
  refine Mv ?_
  refine FL_splitP (t := 22) rfl (fun hs24 => ?_) (fun hs24 => ?_)
  ·refine On ?_
   refine Mv ?_
   refine On ?_
   refine Ve ?_
   refine On ?_
   refine Mv ?_
   refine FL_splitP (t := 25) rfl (fun hs28 => ?_) (fun hs28 => ?_)
   ·refine Of ?_
    refine Of ?_
    refine Of ?_
    refine On ?_
    refine Pt ?_
    refine Pt ?_
    refine Mv ?_
    refine On ?_
    refine FL_callQ H10 (works_ok (hT.keep H10.kept)) (h := fun w33 H33 k32 => ?_)
    refine Pt ?_
    refine Am ?_
    refine Qn ?_
    refine Rs (Qfn_ret (hR := ?_))
    exact ⟨rfl, H33.kept⟩
   ·refine On ?_
    refine Mv ?_
    refine On ?_
    refine FL_callS (countOne_ok t) (h := ?_)
    refine On ?_
    refine Vg ?_
    refine On ?_
    refine Pf ?_
    refine Pt ?_
    refine Mv ?_
    refine FL_splitP (t := 31) rfl (fun hs43 => ?_) (fun hs43 => ?_)
    ·refine On ?_
     refine FL_callQ H10 (works_ok (hT.keep H10.kept)) (h := fun w45 H45 k44 => ?_)
     refine Pt ?_
     refine Am ?_
     refine Qn ?_
     refine Rs (Qfn_ret (hR := ?_))
     exact ⟨rfl, H45.kept⟩
    ·omega
  ·omega
 ·have he0 : (parseS t).2 = 0 := by omega
  have htt := text_again he0
  refine Sk ?_
  refine Sr ?_
  refine Mv ?_
  refine FL_callQ H10 (textE_ok (rowIn_own H10 At0 hc2) (parse_fits t) (hT.keep H10.kept)) (h := fun w54 H54 k53 => ?_)
  rw [htt]
  dsimp only
  refine Mv ?_
  refine Vx ?_
  refine Vx ?_
  refine Am ?_
  refine Am ?_
  refine Nx ?_
  refine Mv ?_
  refine Ve ?_
  refine Mv ?_
  refine FL_splitP (t := 41) rfl (fun hs63 => ?_) (fun hs63 => ?_)
  ·refine On ?_
   refine Mv ?_
   refine On ?_
   refine Mv ?_
   refine On ?_
   refine FL_val (Gives.eqlT rfl rfl) rfl ?_
   refine Pt ?_
   refine Mv ?_
   refine FL_splitP (t := 46) rfl (fun hs69 => ?_) (fun hs69 => ?_)
   ·refine On ?_
    refine FL_callQ H54 (works_ok (hT.keep H54.kept)) (h := fun w71 H71 k70 => ?_)
    refine Pt ?_
    refine Am ?_
    refine Qn ?_
    refine FW_ret (Qfn_ret (hR := ?_))
    exact ⟨rfl, H71.kept⟩
   ·exact (hs69 trivial).elim
  ·exact (hs63 trivial).elim
end
end Go.Proofs.YtmkaahkbhdlniaaGreatDoor
/-
 From a contract to a row: arguments read as rows; what a law's row asks behind the call. Nothing of a given program stands here.
-/
namespace Go.Mw
open Go.RowKit Go.ChangeShapes Go.WideShapes Go.Deep

section
variable {H : Type} {enc : TypeId × Value → H} {P : Program}
theorem trodAll_stays (hl : laidOutB P = true) {W W' : World} (hk : Kept noB W W') {sp : Nat → Bool} : ∀ {ts : List TypeId} {vs : List Value} {ds : List (DataW H)} {ps : List MemPlace}, (∀ t ∈ ts, P.readableRec t = true ∧ t < P.types.size) →
    DataW.TrodAll enc P W 0 (fun _ => true) true ts vs ds ps → (∀ x ∈ ps, x.block < W.heap.size) → (∀ x ∈ ps, sp x.block = true) → DataW.TrodAll enc P W' 0 sp true ts vs ds ps
  | [], [], [], _, _, h, _, _ => h
  | t :: ts, v :: vs, d :: ds, ps, ht, ⟨p, q, h1, h2, e⟩, hlt, hsp => by
    subst e
    exact ⟨p, q, WideElems.Trod_stays hl (ht t List.mem_cons_self).1 (ht t List.mem_cons_self).2 h1 (fun x hx => hk.below.same (hlt x (List.mem_append_left _ hx))) (fun x hx => hsp x (List.mem_append_left _ hx)),
      trodAll_stays hl hk (fun u hu => ht u (List.mem_cons_of_mem _ hu)) h2 (fun x hx => hlt x (List.mem_append_right _ hx)) (fun x hx => hsp x (List.mem_append_right _ hx)), rfl⟩
  | [], [], _ :: _, _, _, h, _, _ => h.elim
  | [], _ :: _, _, _, _, h, _, _ => by cases ‹List (DataW H)› <;> exact h.elim
  | _ :: _, [], _, _, _, h, _, _ => h.elim
  | _ :: _, _ :: _, [], _, _, h, _, _ => h.elim
/-- What a row asks, where nothing that was there has turned and the answer is true. -/
theorem post_law {f : Func} {s : ChangeSpec} {apart fresh handsOn again : Bool} {W W' : World} {args : Array Value} {t : TypeId} {ds gs : List (DataW H)} {before : List MemPlace} (hl : laidOutB P = true)
    (hW : DataW.Whole enc P f.params.toList s.vars apart W args.toList ds gs before) (hvars : s.vars = []) (hr : f.resultTypes = #[t]) (hb : P.underlying t = some .bool) (hp0 : (f.params.toList.all fun t => P.readableRec t && decide (t < P.types.size)) = true)
    (hs : s.fn H (ds ++ gs) = { results := [.lit (.bool true)], args := ds }) (hk : Kept noB W W') (hok : Value.okWide P W' .any 0 t (.bool true)) : s.post enc P f apart fresh handsOn again W args (.bool true) W' := by
  have hp : ∀ t ∈ f.params.toList, P.readableRec t = true ∧ t < P.types.size := fun t ht => by
    have := List.all_eq_true.1 hp0 t ht
    simpa using this
  have hW' := hW
  obtain ⟨pa, pv, hA, hV, rfl, hz, hn⟩ := hW
  have hnil : gs = [] ∧ pv = [] := by
    rw [hvars] at hV
    exact trodVars_none hV
  obtain ⟨rfl, rfl⟩ := hnil
  have hlt : ∀ p ∈ pa, p.block < W.heap.size := fun p hp => hW'.lt p (List.mem_append_left _ hp)
  have hres : ∀ (b : Nat) (sp : Nat → Bool) (hd : Bool), DataW.TrodAll enc P W' b sp hd f.resultTypes.toList ((Value.bool true).resultList f.resultTypes.size) (s.fn H (ds ++ [])).results [] := by
    intro b sp hd
    rw [hs, hr]
    exact trodAll_mk1 (shut_bool hb true)
  have hargs : ∀ sp : Nat → Bool, (∀ p ∈ pa, sp p.block = true) → DataW.TrodAll enc P W' 0 sp true f.params.toList args.toList (s.fn H (ds ++ [])).args pa := by
    intro sp hsp
    rw [hs]
    exact trodAll_stays hl hk hp hA hlt hsp
  have hvs : ∀ sp : Nat → Bool, DataW.TrodVars enc P W' sp s.vars (s.fn H (ds ++ [])).vars [] := by
    intro sp
    rw [hvars, hs]
    exact rfl
  refine ⟨ds, [], pa ++ [], [], pa, [], hW', hres _ _ _, hargs _ (fun p hp => by simpa using hlt p hp), hvs _, World.keptBut_mono (fun p hp => ⟨hp, ?_⟩) (hk.below.frame (· ∈ pa ++ [])), fun _ => ?_⟩
  · simpa using hp
  · refine ⟨fun j t' r hj hv => ?_, _, _, ([] ++ pa) ++ [], ⟨[] ++ pa, [], trodAll_append (hargs _ (fun _ _ => rfl)) (hres _ _ _), hvs _, rfl, ?_, ?_⟩, ?_⟩
    · exact ok_one hr rfl hok j t' r hj hv
    · intro b off hp
      have hin : MemPlace.cell b off ∈ pa := by simpa using hp
      rw [hk.below.frozen (hlt _ hin)]
      exact hz b off (by simpa using hin)
    · intro ha
      have := hn ha
      simpa using this
    · intro p hp _
      simpa using hp
end
end Go.Mw
/-
 What the row lists of the library's variables, as the walks want it.
-/
namespace Go.Proofs.YtmkaahkbhdlniaaGreatDoor
open Go Go.Mw Go.Lib Go.RowKit
set_option maxRecDepth 100000
theorem ownIs : ownKnob Tryz.prog.godebug = none := by kernel_rfl
theorem laidIs : laidOutB Tryz.prog = true := by kernel_rfl
def laidL : List (String × DataW Unit) := [("math/bits.deBruijn32tab", Rows.laid_math_bits_deBruijn32tab), ("math/bits.deBruijn64tab", Rows.laid_math_bits_deBruijn64tab), ("internal/strconv.uint64pow10", Rows.laid_internal_strconv_uint64pow10), ("unicode/utf8.acceptRanges", Rows.laid_unicode_utf8_acceptRanges), ("strconv.ErrRange", Rows.laid_strconv_ErrRange), ("strconv.ErrSyntax", Rows.laid_strconv_ErrSyntax), ("unicode/utf8.first", Rows.laid_unicode_utf8_first)]
theorem u8extra : U8Extra Tryz.prog Tryz.lays260_ren := ⟨by kernel_rfl, by kernel_rfl, by kernel_rfl, by kernel_rfl, by kernel_rfl, by kernel_rfl, by kernel_rfl⟩
theorem first_eq : Rows.laid_unicode_utf8_first = firstData := Pinned.utf8First_eq
theorem accept_eq : (Rows.laid_unicode_utf8_acceptRanges : DataW Unit) = acceptData := by kernel_rfl
theorem pow_eq : (Rows.laid_internal_strconv_uint64pow10 : DataW Unit) = tabData .u64 pow10Tab := by kernel_rfl
theorem star_eq : "*" ++ "errors.errorString" = "*errors.errorString" := by decide
theorem errRow (u : TypeId) (h : Tryz.prog.typeName? 3 u = some "*errors.errorString") : u = 264 :=
 typeName_ptr_named (nm := "errors.errorString") (by rw [star_eq]; kernel_rfl) (by kernel_rfl) (by decide) u (by rw [star_eq]; exact h)
theorem cellsErr : Tryz.prog.cellsOf 266 = 1 := by kernel_rfl
theorem cellsStr : Tryz.prog.cellsOf 9 = 1 := by kernel_rfl
theorem tabsX_of {W : World} (h0 : laidMetH Tryz.prog laidL W) (hsh : W.ShapedOpen Tryz.prog) : TabsX W := by
 rw [MakeChecks.laidMetH_plain _ _ _ (by kernel_rfl)] at h0
 have h := h0
 refine ⟨?_, ?_, ?_, ?_, ?_⟩
 ·exact utf8Tabs_of_reads Tryz.lays260 u8extra (first_eq ▸ Lib.laidMet.reads h (by unfold laidL; simp)) (accept_eq ▸ Lib.laidMet.reads h (by unfold laidL; simp))
 ·obtain ⟨g, t, cs, fuel, p, hg, hty, hvar, hd⟩ := Lib.laidMet.reads (n := "internal/strconv.uint64pow10") h (by unfold laidL; exact .tail _ (.tail _ (.head _)))
  have hg' : Tryz.prog.globalNamed "internal/strconv.uint64pow10" = some 3 := by kernel_rfl
  obtain rfl := Option.some.inj (hg'.symm.trans hg)
  have hty' : (Tryz.prog.globals[3]?).map (·.type) = some 257 := by kernel_rfl
  obtain rfl := Option.some.inj (hty'.symm.trans hty)
  rw [pow_eq] at hd
  have hcs := cells_of_tab Tryz.underlying257 Tryz.underlying178 (by kernel_rfl) (by kernel_rfl) hd
  unfold Lib.TabIs
  rw [hvar, ← hcs]
 ·obtain ⟨a, s, hv, _⟩ := laid_sentinel (g := 4) (ti := 125) (tp := 264) (te := 266) (ts := 9) h.tail.tail.tail.tail.tail (by kernel_rfl) (by kernel_rfl) Tryz.underlying125 errRow Tryz.underlying264 Tryz.underlying266 rfl rfl Tryz.underlying9 cellsErr cellsStr
  exact ⟨_, _, hv⟩
 ·obtain ⟨a, s, hv, _⟩ := laid_sentinel (g := 5) (ti := 125) (tp := 264) (te := 266) (ts := 9) h.tail.tail.tail.tail (by kernel_rfl) (by kernel_rfl) Tryz.underlying125 errRow Tryz.underlying264 Tryz.underlying266 rfl rfl Tryz.underlying9 cellsErr cellsStr
  exact ⟨_, _, hv⟩
 ·exact Tryz.laysM219.s1_3 W hsh
end Go.Proofs.YtmkaahkbhdlniaaGreatDoor
/-
 The arguments of the statements on expressions, read as rows.
-/
namespace Go.Proofs.YtmkaahkbhdlniaaGreatDoor
open Go Go.Mw Go.ChangeShapes Go.WideShapes Go.RowKit
set_option maxRecDepth 4000
section
variable {H : Type} {enc : TypeId × Value → H} {W : World} {r : Reach} {base : Nat} {v : Value} {d : DataW H} {ps : List MemPlace}
theorem str_of (s : ByteArray) : Value.string s = str s.data.toList := by
 unfold str
 congr 1
theorem open_text (hv : Value.okWide Tryz.prog W r base 9 v) (h : DataW.Trod enc Tryz.prog W 0 (fun _ => true) true 9 v d ps) : ∃ s : List UInt8, v = str s := by
 obtain ⟨s, rfl, _⟩ := Go.ChangeMaps.open_string Tryz.underlying9 hv h
 exact ⟨s.data.toList, str_of s⟩
end
end Go.Proofs.YtmkaahkbhdlniaaGreatDoor
/-
 Slices inside of what is read, as rows. Nothing of a given program stands here.
-/
namespace Go.Mw
open Go.RowKit Go.ChangeShapes Go.WideShapes Go.Deep

section
variable {H : Type} {enc : TypeId × Value → H} {P : Program}
end
end Go.Mw
/-
 The arguments of the statements on drawn expressions, read.
-/
namespace Go.Proofs.YtmkaahkbhdlniaaGreatDoor
open Go Go.Mw Go.ChangeShapes Go.WideShapes Go.RowKit
set_option maxRecDepth 4000
section
variable {H : Type} {enc : TypeId × Value → H} {W : World} {r : Reach} {base : Nat} {v : Value} {d : DataW H} {ps : List MemPlace}
end
end Go.Proofs.YtmkaahkbhdlniaaGreatDoor
/-
 The closed facts of a row in two parts, so that each is checked by itself. No program stands here.
-/
namespace Go.Proofs.YtmkaahkbhdlniaaGreatDoor
open Go
def facts1 (P : Program) (f : FuncId) (fn : Func) (s : ChangeSpec) (c : OpenClaim) : Bool :=
 c.wf (OpenSpec.ofChange s) && laidOutB P && mapsRowed P &&
 fn.params.all (P.readableRec ·) && namedTie P c.named s.vars &&
 (c.stops == []) && (P.stops == []) && (c.knobs == []) && (P.stopKnobs == []) &&
 (c.inPlace == P.inPlace f) && (c.unfollowed == P.unfollowed f) && (c.recurses == P.recurses f) && (c.named == P.varsNamed f)
def facts2 (P : Program) (fn : Func) (s : ChangeSpec) (c : OpenClaim) : Bool :=
 (c.maps == (fn.params.toList ++ s.plain.varTypes P).any (P.mapsRec ·)) && (c.ifaces == (fn.params.toList ++ s.plain.varTypes P).any (P.ifacesRec ·)) && (c.mapsOut == P.mapsAmong fn.resultTypes.toList) &&
 (c.loops == (fn.params.toList ++ s.plain.varTypes P).any (P.loopsFrom ·)) && (c.wideKeys == (fn.params.toList ++ s.plain.varTypes P ++ fn.resultTypes.toList).any (P.wideKeysFrom ·)) &&
 s.vars.all (P.varReadable ·) && fn.resultTypes.all (fun t => P.readableRec t && decide (t < P.types.size)) && (c.ifacesOut == fn.resultTypes.toList.any (P.ifacesRec ·)) && (c.loopsOut == fn.resultTypes.toList.any (P.loopsFrom ·)) && (c.plainKeys == P.plainKeys) && c.shortTexts.isNone
def facts3 (P : Program) (fn : Func) (s : ChangeSpec) (c : OpenClaim) : Bool :=
 P.stopsHeard && P.mayEnter && (c.lifted == P.liftsFinal) && (P.make == some c.make) && (c.kinds == (if c.domain.isEmpty then [] else fn.params.toList.map fun t => match P.underlying t with | some (.int k) => some k | _ => none)) && (c.pinned == c.pinnedBy) &&
 (c.veiled == (fn.params.toList ++ s.plain.varTypes P ++ fn.resultTypes.toList).any (P.veiledRec ·)) && c.veiledFits P fn.params.toList (fn.params.toList ++ s.plain.varTypes P ++ fn.resultTypes.toList)
theorem joined_of {P : Program} {f : FuncId} {fn : Func} {s : ChangeSpec} {c : OpenClaim} (h1 : facts1 P f fn s c = true) (h2 : facts2 P fn s c = true) (h3 : facts3 P fn s c = true) : joinedFacts P f fn s c = true := by
 simp only [facts1, Bool.and_eq_true] at h1
 simp only [facts2, Bool.and_eq_true] at h2
 simp only [facts3, Bool.and_eq_true] at h3
 simp only [joinedFacts, Bool.and_eq_true]
 simp only [h1, h2, h3, and_self, and_true, true_and]
 exact h3.1.1.1.2
end Go.Proofs.YtmkaahkbhdlniaaGreatDoor
