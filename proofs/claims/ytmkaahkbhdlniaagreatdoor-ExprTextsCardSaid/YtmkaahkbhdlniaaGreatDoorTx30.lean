/-
 The law's examples, all of them, walked.
-/
import Derived.Test.YtmkaahkbhdlniaaGreatDoorTx29
import Derived.Test.YtmkaahkbhdlniaaGreatDoorTx6
import Derived.ProofKit
import Derived.Carry
import Derived.ChangeSame
import Derived.Deep.Slices
import Derived.Deep.Fields
import Derived.Test.YtmkaahkbhdlniaaGreatDoorTx25
import Derived.Test.YtmkaahkbhdlniaaGreatDoorRows
import Derived.PinnedBridge
import Derived.Lib.LaidU8
import Derived.Stop.LaidErr
import Derived.Deep.DeepHandedRow
import Derived.Lay
import Derived.MakeChecks
import Derived.Test.YtmkaahkbhdlniaaGreatDoorTx24
import Derived.ChangeMaps5
import Derived.JoinedOf
set_option linter.unusedVariables false
set_option linter.unusedSimpArgs false
namespace Go.Proofs.YtmkaahkbhdlniaaGreatDoor
open Go Go.Mw Go.Lib
set_option maxRecDepth 4000
section
variable {w : World}
theorem works_ok (hT : TabsX w) : Rets Tryz.prog 27 [] w fun v w' => v = .bool true ∧ Kept noB w w' := by
 have H := Sep.start0 w
 refine rets0 Tryz.func27 rfl rfl rfl ?_
 refine Sr ?_
 refine Am ?_
 refine Nx ?_
 refine FL_val (Gives.build (out := cellCells cellNull) (Fills.one rfl rfl rfl (by simp) rfl Fills.nil)) rfl ?_
 refine FL_alloc H (h := ?_)
 intro b1 w4 H4 k3
 refine FL_storeAll H4 (h := ?_)
 intro w6 H6
 refine Qn ?_
 refine FW_seq ?_
 refine Sr ?_
 refine FL_val (Gives.build (out := cellCells ⟨false, 7, []⟩) (Fills.one rfl rfl rfl (by simp) rfl Fills.nil)) rfl ?_
 refine FL_callQ H6 (gives_ok tx1 3 false ⟨false, 7, []⟩ 0 (by decide) gives1 (hT.keep H6.kept)) (h := fun w9 H9 k8 => ?_)
 refine FL_val (Gives.not rfl) rfl ?_
 refine Mv ?_
 refine FL_split (t := 10) rfl (fun hs12 => ?_) (fun hs12 => ?_)
 ·exact Bool.noConfusion hs12 --done
 ·refine On ?_
  refine FL_loadAll H9 (h := ?_)
  refine On ?_
  refine FL_callQ H9 (gives_ok tx2 1 true cellNull 0 (by decide) gives2 (hT.keep H9.kept)) (h := fun w16 H16 k15 => ?_)
  refine On ?_
  refine FL_val (Gives.not rfl) rfl ?_
  refine Pf ?_
  refine Mv ?_
  refine FL_split (t := 15) rfl (fun hs20 => ?_) (fun hs20 => ?_)
  ·exact Bool.noConfusion hs20 --done
  ·refine On ?_
   refine FL_val (Gives.build (out := cellCells ⟨false, 1, []⟩) (Fills.one rfl rfl rfl (by simp) rfl Fills.nil)) rfl ?_
   refine On ?_
   refine FL_callQ H16 (gives_ok tx3 1 false ⟨false, 1, []⟩ 0 (by decide) gives3 (hT.keep H16.kept)) (h := fun w24 H24 k23 => ?_)
   refine On ?_
   refine FL_val (Gives.not rfl) rfl ?_
   refine Pf ?_
   refine Mv ?_
   refine FL_split (t := 20) rfl (fun hs28 => ?_) (fun hs28 => ?_)
   ·exact Bool.noConfusion hs28 --done
   ·refine On ?_
    refine FL_val (Gives.build (out := cellCells ⟨false, 1, []⟩) (Fills.one rfl rfl rfl (by simp) rfl Fills.nil)) rfl ?_
    refine On ?_
    refine FL_callQ H24 (gives_ok tx4 1 true ⟨false, 1, []⟩ 0 (by decide) gives4 (hT.keep H24.kept)) (h := fun w32 H32 k31 => ?_)
    refine On ?_
    refine FL_val (Gives.not rfl) rfl ?_
    refine Pf ?_
    refine Mv ?_
    refine FL_split (t := 25) rfl (fun hs36 => ?_) (fun hs36 => ?_)
    ·exact Bool.noConfusion hs36 --done
    ·refine On ?_
     refine FL_val (Gives.build (out := cellCells ⟨false, 0, []⟩) Fills.nil) rfl ?_
     refine On ?_
     refine FL_callQ H32 (gives_ok tx5 1 true ⟨false, 0, []⟩ 0 (by decide) gives5 (hT.keep H32.kept)) (h := fun w40 H40 k39 => ?_)
     refine On ?_
     refine FL_val (Gives.not rfl) rfl ?_
     refine Pf ?_
     refine Mv ?_
     refine FL_split (t := 30) rfl (fun hs44 => ?_) (fun hs44 => ?_)
     ·exact Bool.noConfusion hs44 --done
     ·refine On ?_
      refine FL_val (Gives.build (out := cellCells ⟨false, 2, []⟩) (Fills.one rfl rfl rfl (by simp) rfl Fills.nil)) rfl ?_
      refine On ?_
      refine FL_callQ H40 (gives_ok tx6 3 false ⟨false, 2, []⟩ 0 (by decide) gives6 (hT.keep H40.kept)) (h := fun w48 H48 k47 => ?_)
      refine On ?_
      refine FL_val (Gives.not rfl) rfl ?_
      refine Pf ?_
      refine Mv ?_
      refine FL_split (t := 35) rfl (fun hs52 => ?_) (fun hs52 => ?_)
      ·exact Bool.noConfusion hs52 --done
      ·refine On ?_
       refine FL_val (Gives.build (out := cellCells ⟨false, 0, []⟩) Fills.nil) rfl ?_
       refine On ?_
       refine FL_callQ H48 (gives_ok tx7 3 false ⟨false, 0, []⟩ 50 (by decide) gives7 (hT.keep H48.kept)) (h := fun w56 H56 k55 => ?_)
       refine On ?_
       refine FL_val (Gives.not rfl) rfl ?_
       refine Pf ?_
       refine Mv ?_
       refine FL_split (t := 40) rfl (fun hs60 => ?_) (fun hs60 => ?_)
       ·exact Bool.noConfusion hs60 --done
       ·refine On ?_
        refine FL_val (Gives.build (out := cellCells ⟨false, 0, []⟩) Fills.nil) rfl ?_
        refine On ?_
        refine FL_callQ H56 (gives_ok tx8 1 false ⟨false, 0, []⟩ 50 (by decide) gives8 (hT.keep H56.kept)) (h := fun w64 H64 k63 => ?_)
        refine On ?_
        refine FL_val (Gives.not rfl) rfl ?_
        refine Pf ?_
        refine Qn ?_
        refine FW_cond rfl (fun hc67 => ?_) (fun hc67 => ?_)
        ·exact Bool.noConfusion hc67 --done
        ·refine Sk ?_
         refine FW_seq ?_
         refine Sr ?_
         refine FL_callQ H64 (none_ok nx1 (by decide) none1 (hT.keep H64.kept)) (h := fun w70 H70 k69 => ?_)
         refine FL_val (Gives.not rfl) rfl ?_
         refine Mv ?_
         refine FL_split (t := 47) rfl (fun hs73 => ?_) (fun hs73 => ?_)
         ·exact Bool.noConfusion hs73 --done
         ·refine On ?_
          refine FL_callQ H70 (none_ok nx2 (by decide) none2 (hT.keep H70.kept)) (h := fun w76 H76 k75 => ?_)
          refine On ?_
          refine FL_val (Gives.not rfl) rfl ?_
          refine Pf ?_
          refine Mv ?_
          refine FL_split (t := 51) rfl (fun hs80 => ?_) (fun hs80 => ?_)
          ·exact Bool.noConfusion hs80 --done
          ·refine On ?_
           refine FL_callQ H76 (none_ok nx3 (by decide) none3 (hT.keep H76.kept)) (h := fun w83 H83 k82 => ?_)
           refine On ?_
           refine FL_val (Gives.not rfl) rfl ?_
           refine Pf ?_
           refine Mv ?_
           refine FL_split (t := 55) rfl (fun hs87 => ?_) (fun hs87 => ?_)
           ·exact Bool.noConfusion hs87 --done
           ·refine On ?_
            refine FL_callQ H83 (none_ok nx4 (by decide) none4 (hT.keep H83.kept)) (h := fun w90 H90 k89 => ?_)
            refine On ?_
            refine FL_val (Gives.not rfl) rfl ?_
            refine Pf ?_
            refine Mv ?_
            refine FL_split (t := 59) rfl (fun hs94 => ?_) (fun hs94 => ?_)
            ·exact Bool.noConfusion hs94 --done
            ·refine On ?_
             refine FL_callQ H90 (none_ok nx5 (by decide) none5 (hT.keep H90.kept)) (h := fun w97 H97 k96 => ?_)
             refine On ?_
             refine FL_val (Gives.not rfl) rfl ?_
             refine Pf ?_
             refine Mv ?_
             refine FL_split (t := 63) rfl (fun hs101 => ?_) (fun hs101 => ?_)
             ·exact Bool.noConfusion hs101 --done
             ·refine On ?_
              refine FL_val (Gives.build (out := stepCells ⟨1, 3, []⟩) (Fills.one rfl rfl rfl (by simp) rfl (Fills.one rfl rfl rfl (by simp) rfl Fills.nil))) rfl ?_
              refine On ?_
              refine FL_val (Gives.build (out := stepCells ⟨1, 1, []⟩) (Fills.one rfl rfl rfl (by simp) rfl (Fills.one rfl rfl rfl (by simp) rfl Fills.nil))) rfl ?_
              refine On ?_
              refine FL_val (Gives.build (out := stepCells ⟨1, 1, []⟩) (Fills.one rfl rfl rfl (by simp) rfl (Fills.one rfl rfl rfl (by simp) rfl Fills.nil))) rfl ?_
              refine On ?_
              refine FL_val (Gives.build (out := stepCells ⟨7, 0, []⟩) (Fills.one rfl rfl rfl (by simp) rfl Fills.nil)) rfl ?_
              refine On ?_
              refine FL_val (Gives.build (out := stepCells ⟨1, 9, []⟩) (Fills.one rfl rfl rfl (by simp) rfl (Fills.one rfl rfl rfl (by simp) rfl Fills.nil))) rfl ?_
              refine On ?_
              refine FL_buildSlice H97 (xs := [.tmp 64, .tmp 65, .tmp 66, .tmp 67, .tmp 68]) (out := useL.flatMap stepCells) (Elems.many rfl rfl (Elems.many rfl rfl (Elems.many rfl rfl (Elems.many rfl rfl (Elems.many rfl rfl Elems.nil))))) rfl rfl rfl (fun ba w109 H109 k108 => ?_)
              refine On ?_
              refine FL_call (usesE_ok (l := useL) ⟨some ⟨ba, 0, none⟩, 5, rfl, ⟨Nat.le_refl _, by decide⟩, Sep.blkRow H109 At0 rfl⟩ (by decide)) rfl rfl (fun v' w111 hv => ?_)
              obtain ⟨x, rfl, _, hkk, F1, hq, hsub⟩ := hv
              have H111 := H109.new hkk hq (fun b hb => (hsub b hb).resolve_left id)
              obtain ⟨B, cb, rfl, hcb, hB⟩ := Sep.formD H111 At0
              refine On ?_
              refine FL_buildSlice H111 (xs := [_, _, _]) (out := [1, 3, 9].flatMap intCells) (Elems.one rfl rfl (Elems.one rfl rfl (Elems.one rfl rfl Elems.nil))) rfl rfl rfl (fun bb w113 H113 k112 => ?_)
              refine On ?_
              refine FL_callQ H113 (intsEq_ok (a := usesS useL) (b := [1, 3, 9]) ⟨B, cb, rfl, ⟨hcb, Sep.capD H113 At1⟩, Sep_rdD H113 At1⟩ ⟨some ⟨bb, 0, none⟩, 3, rfl, ⟨Nat.le_refl _, by decide⟩, Sep.blkRow H113 At0 rfl⟩) (h := fun w115 H115 k114 => ?_)
              rw [decide_eq_true use_eq]
              refine On ?_
              refine FL_val (Gives.not rfl) rfl ?_
              refine Pf ?_
              refine Qn ?_
              refine FW_cond rfl (fun hc118 => ?_) (fun hc118 => ?_)
              ·exact Bool.noConfusion hc118 --done
              ·refine Sk ?_
               refine Sr ?_
               refine FL_buildSlice H115 (xs := [_, _, _, _, _, _]) (out := badW.flatMap textCells) (Elems.one rfl rfl (Elems.one rfl rfl (Elems.one rfl rfl (Elems.one rfl rfl (Elems.one rfl rfl (Elems.one rfl rfl Elems.nil)))))) rfl rfl rfl (fun bd w121 H121 k120 => ?_)
               refine Am ?_
               refine Qn ?_
               refine FW_seq ?_
               refine Sr ?_
               refine Am ?_
               refine Qn ?_
               refine FW_block ?_
               refine FW_loop' (fun i : Nat => [(2, .slice (some ⟨bd, 0, none⟩) 6 6), (3, I i)]) (fun i w' => i ≤ 6 ∧ Sep w noB [blk bd (badW.flatMap textCells) 9] w') (fun i _ => 6 - i) 0 ⟨rfl, rfl, trivial⟩ ⟨Nat.zero_le _, H121.first⟩ (fun i τ w125 hI => ?_)
               obtain ⟨hi, H125⟩ := hI
               try simp only [upds, like, upd_ds, und_ds]
               refine FW_seq ?_
               refine Sr ?_
               refine Mv ?_
               refine Mv ?_
               refine Vs ?_
               refine Vl ?_
               refine Qn ?_
               refine FW_condP rfl (fun hc130 => ?_) (fun hc130 => ?_)
               ·have hlt : i < badW.length := by show i < 6; omega
                obtain ⟨x, hx⟩ := get_some hlt
                obtain ⟨hpx, hxl⟩ := bad_parse x (List.mem_of_getElem? hx)
                have hRb : Rd w125 (some ⟨bd, 0, none⟩) textCells 1 badW := Sep.blkRow H125 At0 rfl
                refine Sk ?_
                refine FW_seq ?_
                refine FW_block ?_
                refine Sr ?_
                refine Mv ?_
                refine Mv ?_
                refine FL_val (Gives.idxR (l := badW) (enc := textCells) rfl rfl hRb hlt) rfl ?_
                refine FL_val (Gives.loadW (f := 0) rfl hRb hx rfl) rfl ?_
                refine FL_call (parseE_ok x (.inl (by omega)) (by omega) (hT.keep H125.kept)) rfl rfl (fun v' w137 hv => ?_)
                obtain ⟨y, rfl, _, hkk, F1, hq, hsub⟩ := hv
                have H137 := H125.new hkk hq (fun b hb => (hsub b hb).resolve_left id)
                rw [hpx] at H137
                obtain ⟨B2, cb2, rfl, hcb2, hB2⟩ := Sep.formD H137 At0
                rw [hpx]
                refine Mv ?_
                refine Vx ?_
                refine Vx ?_
                refine Am ?_
                refine Am ?_
                refine Nx ?_
                refine Mv ?_
                refine Vn ?_
                refine Mv ?_
                refine FL_splitP (t := 92) rfl (fun hs146 => ?_) (fun hs146 => ?_)
                ·exact (hs146 (by first | trivial | rfl)).elim --done
                ·refine On ?_
                 refine Mv ?_
                 refine On ?_
                 refine Vs ?_
                 refine On ?_
                 refine Vn ?_
                 refine Pf ?_
                 refine Qn ?_
                 refine FW_condP rfl (fun hc152 => ?_) (fun hc152 => ?_)
                 ·exact (hc152 (by first | trivial | rfl)).elim --done
                 ·refine FW_skip (Qblk_normal (Qseq_normal ?_))
                  refine FW_region ?_
                  refine Mv ?_
                  refine FL_val (Gives.addI (c := ((i + 1 : Nat) : Int)) rfl rfl (by omega) (by omega)) rfl ?_
                  refine Am ?_
                  refine FL_nil ?_
                  exact Qround_normal (i + 1) ⟨rfl, rfl, trivial⟩ ⟨by omega, H137.front1.first⟩ (by omega)
               ·refine FW_exit (Qseq_exit (Qround_exit (Qblk_exit (Qseq_normal ?_))))
                refine Sr ?_
                refine Am ?_
                refine Qn ?_
                refine FW_ret (Qfn_ret (hR := ?_))
                exact ⟨rfl, H125.kept⟩
end
end Go.Proofs.YtmkaahkbhdlniaaGreatDoor
/-
 Cells of rows that are owned are written; the law's cuts of its arguments, walked.
-/
namespace Go.Mw
open Go.RowKit
section
variable {P : Program} {r : Option Nat} {n : Nat} {ops : Array Oper} {Q : Post} {rest : List Oper} {σ : St} {w w₀ : World} {S : Nat → Prop} {rs : List HP} {put : HP → List HP} {ty : TypeId} {pos : String} {after : Array Edge}
variable {α : Type} {enc : α → List Value} {k e c : Nat} {l : List α} {A : Option Addr}
theorem Gives.minE {ρ : Operand → Value} {x y : Operand} {kd : IntKind} {a b m : Int} {ts : Array TypeId} (hx : ρ x = .int kd a) (hy : ρ y = .int kd b) (he : Min.min a b = m) : Gives P ρ (.call { callee := .builtin .min, args := #[x, y], argTypes := ts }) ty w (.int kd m) w := by subst he; exact Gives.min hx hy
end
end Go.Mw
namespace Go.Proofs.YtmkaahkbhdlniaaGreatDoor
open Go Go.Mw Go.Lib
set_option maxRecDepth 4000
def cutStep (x : StepM) : StepM := ⟨x.kind, x.n, x.s.take 1100⟩
def stepsL (l : List StepM) : List StepM := (l.take 70).map cutStep
theorem min_take (s : List UInt8) (k : Nat) : Min.min ((s.length : Nat) : Int) (k : Int) = (((s.take k).length : Nat) : Int) := by
 rw [List.length_take]
 omega
theorem take_take' (s : List UInt8) (k : Nat) : s.take (s.take k).length = s.take k := by
 rw [List.length_take]
 by_cases h : k ≤ s.length
 ·rw [Nat.min_eq_left h]
 ·rw [Nat.min_eq_right (by omega), List.take_length, List.take_of_length_le (by omega)]
section
variable {w : World}
theorem steps_ok {l : List StepM} {v : Value} (hl : RowIn w v stepCells 3 l) : Rets Tryz.prog 14 [v] w fun v' w' => ∃ x, v' = x ∧ True ∧ Turn noB (rowD 57 3 stepCells x (stepsL l)) w w' := by
 obtain ⟨A, m, rfl, ⟨hm, hm'⟩, hA⟩ := hl
 have H := Sep.start0 w
 refine rets1 Tryz.func14 rfl rfl rfl rfl ?_
 refine Sr ?_
 refine Am ?_
 refine Nx ?_
 refine Am ?_
 refine Qn ?_
 refine FW_seq ?_
 refine Sr ?_
 refine Am ?_
 refine Qn ?_
 refine FW_block ?_
 have H5 := Sep.nilD H 57 3 stepCells
 refine FW_loop' (fun x : Nat × Value => [(0, .slice A l.length m), (3, x.2), (4, I x.1)]) (fun x w' => (x.1 ≤ l.length ∧ x.1 ≤ 70) ∧ Sep w noB [rowD 57 3 stepCells x.2 ((l.take x.1).map cutStep)] w') (fun x _ => l.length - x.1) (0, .slice none 0 0) ⟨rfl, rfl, rfl, trivial⟩ ⟨⟨Nat.zero_le _, Nat.zero_le _⟩, H5⟩ (fun x τ w5 hI => ?_)
 obtain ⟨i, v1⟩ := x
 obtain ⟨⟨hi, hi70⟩, H5⟩ := hI
 dsimp only at hi hi70 H5
 have hml : ((l.take i).map cutStep).length = i := by rw [List.length_map, List.length_take]; omega
 try simp only [upds, like, upd_ds, und_ds]
 refine FW_seq ?_
 refine Sr ?_
 refine Mv ?_
 refine Mv ?_
 refine Vs ?_
 refine Vl ?_
 refine Mv ?_
 refine FL_splitP (t := 10) rfl (fun hs11 => ?_) (fun hs11 => ?_)
 ·have hilt := hs11
  refine On ?_
  refine Mv ?_
  refine On ?_
  refine Vl ?_
  refine Pt ?_
  refine Qn ?_
  refine FW_condP rfl (fun hc16 => ?_) (fun hc16 => ?_)
  ·have hlt : i < l.length := by omega
   obtain ⟨x, hx⟩ := get_some hlt
   have htk : (l.take (i + 1)).map cutStep = (l.take i).map cutStep ++ [cutStep x] := by rw [List.take_add_one, hx, List.map_append]; rfl
   refine Sk ?_
   refine FW_seq ?_
   refine FW_block ?_
   refine Sr ?_
   refine Mv ?_
   refine Mv ?_
   refine FL_val (Gives.idxR rfl rfl (by assumption) (by omega)) rfl ?_
   refine FL_val (Gives.loadE0 rfl H5 (by assumption) (by assumption)) rfl ?_
   refine FL_alloc H5 (h := ?_)
   intro b5 w23 H23 k22
   refine FL_storeAll H23 (h := ?_)
   intro w25 H25
   refine Nx ?_
   refine Vf ?_
   refine Ld H25 ?_
   refine Vf ?_
   refine Ld H25 ?_
   refine Vt ?_
   refine FL_val (Gives.minE rfl rfl (min_take x.s 1100)) rfl ?_
   refine FL_val (Gives.sliceToT (l := x.s) (i := (x.s.take 1100).length) rfl rfl (by rw [List.length_take]; omega)) rfl ?_
   rw [take_take']
   refine Vf ?_
   refine FL_store H25 (h := ?_)
   intro w35 H35
   refine Qn ?_
   refine FW_region ?_
   refine Mv ?_
   refine FL_loadAll H35 (cs := stepCells (cutStep x)) (h := ?_)
   refine FL_buildSlice H35 (xs := [.tmp 29]) (out := [cutStep x].flatMap stepCells) (Elems.many rfl rfl Elems.nil) rfl rfl rfl (fun bs w39 H39 k38 => ?_)
   refine FL_appendD H39 (news := [cutStep x]) At1 (by rw [hml]; unfold maxLen; simp; omega) (by rw [hml]; show (i + 1) * 32 ≤ _; omega) (by intro u hu; simp only [List.flatMap_cons, List.flatMap_nil, stepCells, List.append_nil, List.mem_cons, List.not_mem_nil, or_false] at hu; rcases hu with rfl | rfl | rfl <;> rfl) (h := ?_)
   intro v2 w41 H41
   rw [← htk] at H41
   refine Am ?_
   refine FL_nil (Qblk_normal (Qseq_normal ?_))
   refine FW_region ?_
   refine Mv ?_
   refine FL_val (Gives.addI (c := ((i + 1 : Nat) : Int)) rfl rfl (by omega) (by omega)) rfl ?_
   refine Am ?_
   refine FL_nil ?_
   exact Qround_normal (i + 1, v2) ⟨rfl, rfl, rfl, trivial⟩ ⟨⟨by dsimp only; omega, by dsimp only; omega⟩, (H41.front1).firsts (l := [_])⟩ (by dsimp only; omega)
  ·have hend : (l.take i).map cutStep = stepsL l := by unfold stepsL; rw [show i = 70 by have h := hc16; omega]
   refine FW_exit (Qseq_exit (Qround_exit (Qblk_exit (Qseq_normal ?_))))
   refine Sr ?_
   refine Mv ?_
   refine Am ?_
   refine Qn ?_
   refine FW_ret (Qfn_ret (hR := ?_))
   exact ⟨_, rfl, trivial, by rw [hend] at H5; exact H5.turn⟩
 ·have hend : (l.take i).map cutStep = stepsL l := by unfold stepsL; rw [List.take_of_length_le (l := l) (i := i) (by have h := hs11; omega), List.take_of_length_le (l := l) (i := 70) (by have h := hs11; omega)]
  refine Of ?_
  refine Of ?_
  refine Pf ?_
  refine Qn ?_
  refine FW_cond_false rfl ?_
  refine FW_exit (Qseq_exit (Qround_exit (Qblk_exit (Qseq_normal ?_))))
  refine Sr ?_
  refine Mv ?_
  refine Am ?_
  refine Qn ?_
  refine FW_ret (Qfn_ret (hR := ?_))
  exact ⟨_, rfl, trivial, by rw [hend] at H5; exact H5.turn⟩
end
end Go.Proofs.YtmkaahkbhdlniaaGreatDoor
/-
 The law ExprTexts, walked.
-/
namespace Go.Proofs.YtmkaahkbhdlniaaGreatDoor
open Go Go.Mw Go.Lib
set_option maxRecDepth 4000
theorem steps_again (l : List StepM) : stepsL (stepsL l) = stepsL l := by
 unfold stepsL
 rw [List.take_of_length_le (by rw [List.length_map, List.length_take]; omega), List.map_map]
 refine List.map_congr_left fun x _ => ?_
 show cutStep (cutStep x) = cutStep x
 unfold cutStep
 dsimp only
 rw [List.take_take, Nat.min_self]
theorem steps_len (l : List StepM) : (stepsL l).length ≤ 70 := by unfold stepsL; rw [List.length_map, List.length_take]; omega
theorem steps_fits {l : List StepM} (h : ∀ x ∈ l, fits x.n) : ∀ x ∈ stepsL l, fits x.n := by
 intro x hx
 obtain ⟨y, hy, rfl⟩ := List.mem_map.1 hx
 exact h y (List.mem_of_mem_take hy)
theorem rowIn_own {α : Type} {enc : α → List Value} {k e c : Nat} [EncK enc k] {l : List α} {A : Option Addr} {w w₀ : World} {S : Nat → Prop} {rs : List HP} {put : HP → List HP} (H : Mw.Sep w₀ S rs w) (hat : At rs (rowD e k enc (.slice A l.length c) l) put) (hc : l.length ≤ c) : RowIn w (.slice A l.length c) enc k l :=
 ⟨A, c, rfl, ⟨hc, Sep.capD H hat⟩, Sep_rdD H hat⟩
section
variable {w : World}
theorem exprTexts_ok {l : List StepM} {vl : Value} (s : List UInt8) (hl : RowIn w vl stepCells 3 l) (hx : ∀ x ∈ l, fits x.n) (hT : TabsX w) : Rets Tryz.prog 9 [vl, str s] w fun v w' => v = .bool true ∧ Kept noB w w' := by
 have H := Sep.start0 w
 have hfx := steps_fits hx
 have hsl := steps_len l
 obtain ⟨m, hm⟩ : ∃ m, m = stepsL l := ⟨_, rfl⟩
 have hmm : stepsL m = m := by rw [hm, steps_again]
 rw [← hm] at hfx hsl
 obtain ⟨t, ht⟩ : ∃ t, t = s.take 1000 := ⟨_, rfl⟩
 have htl : t.length ≤ 1000 := by rw [ht, List.length_take]; omega
 refine rets2 Tryz.func9 rfl rfl rfl rfl ?_
 refine Sr ?_
 refine Am ?_
 refine Qn ?_
 refine FW_seq ?_
 refine FW_drawS rfl H (h := fun hok2 w4 H4 => ?_)
 refine FGmove hok2 0 (h := ?_)
 refine FGmove hok2 2 (h := ?_)
 refine FGmove hok2 3 (h := ?_)
 refine FGp hok2 4 rfl rfl (fun _ => (Gives.lenT rfl)) (by kernel_rfl) ?_
 refine FGp hok2 5 rfl rfl (fun _ => (Gives.minE rfl rfl (min_take s 1000))) (by kernel_rfl) ?_
 refine FGp hok2 6 rfl rfl (fun _ => (Gives.sliceToT (l := s) (i := (s.take 1000).length) rfl rfl (by rw [List.length_take]; omega))) (by kernel_rfl) ?_
 rw [take_take', ← ht]
 refine FGcall hok2 1 [(6, true), (5, true), (4, true), (3, true), (2, true)] rfl (by kernel_rfl) (steps_ok (hl.keep H4.kept)) rfl (by kernel_rfl) (by kernel_rfl) (fun v' w9 hv => ?_)
 obtain ⟨x1, rfl, _, hkk, F1, hq, hsub⟩ := hv
 have H9 := H4.new hkk hq (fun b hb => (hsub b hb).resolve_left id)
 rw [← hm] at H9
 obtain ⟨B1, c1, rfl, hc1, hB1⟩ := Sep.formD H9 At0
 refine ⟨Stab_pure (Stab_pure (Stab_pure (Stab_pure (Stab_pure (Stab_nil))))), ?_⟩
 refine FGset hok2 7 [(6, true), (5, true), (4, true), (3, true), (2, true)] (h := ⟨Stab_pure (Stab_pure (Stab_pure (Stab_pure (Stab_pure (Stab_nil))))), ?_⟩)
 refine FGset hok2 8 [] (h := ⟨Stab_nil, ?_⟩)
 refine FG_end hok2 (by kernel_rfl) ?_
 refine Qseq_normal ?_
 refine Sr ?_
 refine Mv ?_
 refine FL_call (steps_ok (rowIn_own H9 At0 hc1)) rfl rfl (fun v' w14 hv => ?_)
 obtain ⟨x2, rfl, _, hkk, F1, hq, hsub⟩ := hv
 have H14 := H9.new hkk hq (fun b hb => (hsub b hb).resolve_left id)
 rw [hmm] at H14
 obtain ⟨B2, c2, rfl, hc2, hB2⟩ := Sep.formD H14 At0
 refine Am ?_
 refine Nx ?_
 refine Mv ?_
 refine FL_callQ H14 (textE_ok (rowIn_own H14 At1 hc1) hfx (hT.keep H14.kept)) (h := fun w18 H18 k17 => ?_)
 refine Mv ?_
 refine Vx ?_
 refine Vx ?_
 refine Am ?_
 refine Am ?_
 refine Nx ?_
 refine Mv ?_
 refine FL_callQ H18 (textR_ok22 (rowIn_own H18 At0 hc2) hfx) (h := fun w26 H26 k25 => ?_)
 refine Mv ?_
 refine Vx ?_
 refine Vx ?_
 refine Am ?_
 refine Am ?_
 refine Nx ?_
 refine Mv ?_
 refine FL_call (parseE_ok t (.inl (by omega)) (by omega) (hT.keep H26.kept)) rfl rfl (fun v' w34 hv => ?_)
 obtain ⟨x3, rfl, _, hkk, F1, hq, hsub⟩ := hv
 have H34 := H26.new hkk hq (fun b hb => (hsub b hb).resolve_left id)
 obtain ⟨B3, c3, rfl, hc3, hB3⟩ := Sep.formD H34 At0
 refine Mv ?_
 refine Vx ?_
 refine Vx ?_
 refine Am ?_
 refine Am ?_
 refine Nx ?_
 refine Mv ?_
 refine FL_call (parse_ok22 t (by omega)) rfl rfl (fun v' w42 hv => ?_)
 obtain ⟨x4, rfl, _, hkk, F1, hq, hsub⟩ := hv
 have H42 := H34.new hkk hq (fun b hb => (hsub b hb).resolve_left id)
 obtain ⟨B4, c4, rfl, hc4, hB4⟩ := Sep.formD H42 At0
 refine Mv ?_
 refine Vx ?_
 refine Vx ?_
 refine Am ?_
 refine Am ?_
 refine Nx ?_
 refine Mv ?_
 refine Mv ?_
 refine FL_val (Gives.eqlT rfl rfl) rfl ?_
 refine Mv ?_
 refine FL_splitP (t := 46) rfl (fun hs52 => ?_) (fun hs52 => ?_)
 ·refine On ?_
  refine Mv ?_
  refine On ?_
  refine Mv ?_
  refine On ?_
  refine Ve ?_
  refine Pt ?_
  refine Mv ?_
  refine FL_splitP (t := 51) rfl (fun hs58 => ?_) (fun hs58 => ?_)
  ·refine On ?_
   refine Mv ?_
   refine On ?_
   refine Mv ?_
   refine On ?_
   refine FL_callQ H42 (stepsEq_ok (rowIn_own H42 At1 hc3) (rowIn_own H42 At0 hc4)) (h := fun w62 H62 k61 => ?_)
   rw [decide_eq_true (rfl : (parseS t).1 = (parseS t).1)]
   refine Pt ?_
   refine Mv ?_
   refine FL_split (t := 56) rfl (fun hs65 => ?_) (fun hs65 => ?_)
   ·refine On ?_
    refine Mv ?_
    refine On ?_
    refine Mv ?_
    refine On ?_
    refine Ve ?_
    refine Pt ?_
    refine Mv ?_
    refine FL_splitP (t := 61) rfl (fun hs71 => ?_) (fun hs71 => ?_)
    ·refine On ?_
     refine Mv ?_
     refine On ?_
     refine Mv ?_
     refine On ?_
     refine FL_callQ H62 (stepsEq_ok (rowIn_own H62 At3 hc1) (rowIn_own H62 At2 hc2)) (h := fun w75 H75 k74 => ?_)
     rw [decide_eq_true (rfl : m = m)]
     refine Pt ?_
     refine Mv ?_
     refine FL_split (t := 66) rfl (fun hs78 => ?_) (fun hs78 => ?_)
     ·refine On ?_
      refine FL_callQ H75 (works_ok (hT.keep H75.kept)) (h := fun w80 H80 k79 => ?_)
      refine Pt ?_
      refine Am ?_
      refine Qn ?_
      refine FW_ret (Qfn_ret (hR := ?_))
      exact ⟨rfl, H80.kept⟩
     ·exact Bool.noConfusion hs78 --done
    ·exact (hs71 (by first | trivial | rfl)).elim --done
   ·exact Bool.noConfusion hs65 --done
  ·exact (hs58 (by first | trivial | rfl)).elim --done
 ·exact (hs52 (by first | trivial | rfl)).elim --done
end
end Go.Proofs.YtmkaahkbhdlniaaGreatDoor
/-
 From a contract to a row: arguments read as rows; what a law's row asks behind the call. Nothing of a given program stands here.
-/
namespace Go.Mw
open Go.RowKit Go.ChangeShapes Go.WideShapes Go.Deep

section
variable {H : Type} {enc : TypeId × Value → H} {P : Program}
theorem trodAll_stays (hl : laidOutB P = true) {W W' : World} (hk : Kept noB W W') {sp : Nat → Bool} : ∀ {ts : List TypeId} {vs : List Value} {ds : List (DataW H)} {ps : List MemPlace}, (∀ t ∈ ts, P.readableRec t = true ∧ t < P.types.size) →
    DataW.TrodAll enc P W 0 (fun _ => true) true ts vs ds ps → (∀ x ∈ ps, x.block < W.heap.size) → (∀ x ∈ ps, sp x.block = true) → DataW.TrodAll enc P W' 0 sp true ts vs ds ps
  | [], [], [], _, _, h, _, _ => h
  | t :: ts, v :: vs, d :: ds, ps, ht, ⟨p, q, h1, h2, e⟩, hlt, hsp => by
    subst e
    exact ⟨p, q, WideElems.Trod_stays hl (ht t List.mem_cons_self).1 (ht t List.mem_cons_self).2 h1 (fun x hx => hk.below.same (hlt x (List.mem_append_left _ hx))) (fun x hx => hsp x (List.mem_append_left _ hx)),
      trodAll_stays hl hk (fun u hu => ht u (List.mem_cons_of_mem _ hu)) h2 (fun x hx => hlt x (List.mem_append_right _ hx)) (fun x hx => hsp x (List.mem_append_right _ hx)), rfl⟩
  | [], [], _ :: _, _, _, h, _, _ => h.elim
  | [], _ :: _, _, _, _, h, _, _ => by cases ‹List (DataW H)› <;> exact h.elim
  | _ :: _, [], _, _, _, h, _, _ => h.elim
  | _ :: _, _ :: _, [], _, _, h, _, _ => h.elim
/-- What a row asks, where nothing that was there has turned and the answer is true. -/
theorem post_law {f : Func} {s : ChangeSpec} {apart fresh handsOn again : Bool} {W W' : World} {args : Array Value} {t : TypeId} {ds gs : List (DataW H)} {before : List MemPlace} (hl : laidOutB P = true)
    (hW : DataW.Whole enc P f.params.toList s.vars apart W args.toList ds gs before) (hvars : s.vars = []) (hr : f.resultTypes = #[t]) (hb : P.underlying t = some .bool) (hp0 : (f.params.toList.all fun t => P.readableRec t && decide (t < P.types.size)) = true)
    (hs : s.fn H (ds ++ gs) = { results := [.lit (.bool true)], args := ds }) (hk : Kept noB W W') (hok : Value.okWide P W' .any 0 t (.bool true)) : s.post enc P f apart fresh handsOn again W args (.bool true) W' := by
  have hp : ∀ t ∈ f.params.toList, P.readableRec t = true ∧ t < P.types.size := fun t ht => by
    have := List.all_eq_true.1 hp0 t ht
    simpa using this
  have hW' := hW
  obtain ⟨pa, pv, hA, hV, rfl, hz, hn⟩ := hW
  have hnil : gs = [] ∧ pv = [] := by
    rw [hvars] at hV
    exact trodVars_none hV
  obtain ⟨rfl, rfl⟩ := hnil
  have hlt : ∀ p ∈ pa, p.block < W.heap.size := fun p hp => hW'.lt p (List.mem_append_left _ hp)
  have hres : ∀ (b : Nat) (sp : Nat → Bool) (hd : Bool), DataW.TrodAll enc P W' b sp hd f.resultTypes.toList ((Value.bool true).resultList f.resultTypes.size) (s.fn H (ds ++ [])).results [] := by
    intro b sp hd
    rw [hs, hr]
    exact trodAll_mk1 (shut_bool hb true)
  have hargs : ∀ sp : Nat → Bool, (∀ p ∈ pa, sp p.block = true) → DataW.TrodAll enc P W' 0 sp true f.params.toList args.toList (s.fn H (ds ++ [])).args pa := by
    intro sp hsp
    rw [hs]
    exact trodAll_stays hl hk hp hA hlt hsp
  have hvs : ∀ sp : Nat → Bool, DataW.TrodVars enc P W' sp s.vars (s.fn H (ds ++ [])).vars [] := by
    intro sp
    rw [hvars, hs]
    exact rfl
  refine ⟨ds, [], pa ++ [], [], pa, [], hW', hres _ _ _, hargs _ (fun p hp => by simpa using hlt p hp), hvs _, World.keptBut_mono (fun p hp => ⟨hp, ?_⟩) (hk.below.frame (· ∈ pa ++ [])), fun _ => ?_⟩
  · simpa using hp
  · refine ⟨fun j t' r hj hv => ?_, _, _, ([] ++ pa) ++ [], ⟨[] ++ pa, [], trodAll_append (hargs _ (fun _ _ => rfl)) (hres _ _ _), hvs _, rfl, ?_, ?_⟩, ?_⟩
    · exact ok_one hr rfl hok j t' r hj hv
    · intro b off hp
      have hin : MemPlace.cell b off ∈ pa := by simpa using hp
      rw [hk.below.frozen (hlt _ hin)]
      exact hz b off (by simpa using hin)
    · intro ha
      have := hn ha
      simpa using this
    · intro p hp _
      simpa using hp
/-- So many things that exist make a list. -/
theorem exists_list {α : Type} {Q : Nat → α → Prop} : ∀ n : Nat, (∀ i, i < n → ∃ x, Q i x) → ∃ l : List α, l.length = n ∧ ∀ i x, l[i]? = some x → Q i x
 | 0, _ => ⟨[], rfl, fun i x h => by simp at h⟩
 | n + 1, h => by
  obtain ⟨l, h1, h2⟩ := exists_list n fun i hi => h i (by omega)
  obtain ⟨x, hx⟩ := h n (by omega)
  refine ⟨l ++ [x], by simp [h1], fun i y hy => ?_⟩
  rw [List.getElem?_append] at hy
  split at hy
  ·exact h2 i y hy
  ·rename_i hge
   have hi : i = n := by
    rcases Nat.lt_or_ge (i - l.length) 1 with h3 | h3
    ·omega
    ·rw [List.getElem?_eq_none (by simpa using h3)] at hy; cases hy
   subst hi
   rw [h1, Nat.sub_self] at hy
   injection hy with hy
   rw [← hy]; exact hx
/-- Cells of things one behind the other. -/
theorem flatMap_get {α : Type} {f : α → List Value} {s : Nat} (hf : ∀ x, (f x).length = s) : ∀ (l : List α) (k : Nat) (v : Value), (l.flatMap f)[k]? = some v → ∃ i j x, l[i]? = some x ∧ (f x)[j]? = some v ∧ k = i * s + j
 | [], k, v, h => by simp at h
 | x :: l, k, v, h => by
  rw [List.flatMap_cons, List.getElem?_append] at h
  split at h
  ·exact ⟨0, k, x, rfl, h, by omega⟩
  ·rename_i hge
   obtain ⟨i, j, y, h1, h2, h3⟩ := flatMap_get hf l _ v h
   rw [hf] at h3 hge
   exact ⟨i + 1, j, y, by simpa using h1, h2, by rw [Nat.add_mul]; omega⟩
theorem flatMap_len {α : Type} {f : α → List Value} {s : Nat} (hf : ∀ x, (f x).length = s) : ∀ l : List α, (l.flatMap f).length = l.length * s
 | [] => by simp
 | x :: l => by rw [List.flatMap_cons, List.length_append, hf, flatMap_len hf l, List.length_cons, Nat.add_mul]; omega
/-- A slice that is an argument, read as a row. -/
theorem open_rows {α : Type} {f : α → List Value} {good : α → Prop} {s : Nat} {t e : TypeId} {W : World} {r : Reach} {base : Nat} {v : Value} {d : DataW H} {ps : List MemPlace} (ht : P.underlying t = some (.slice e)) (hC : P.cellsOf e = s) (hf : ∀ x, (f x).length = s)
    (hel : ∀ n cs y, cs.length = s → DataW.trod enc P W 0 (fun _ => true) true n e cs = some y → ∃ x, cs = f x ∧ good x) (hv : Value.okWide P W r base t v) (h : DataW.Trod enc P W 0 (fun _ => true) true t v d ps) :
    ∃ A c, ∃ l : List α, v = .slice A l.length c ∧ l.length ≤ c ∧ c ≤ maxLen ∧ RowAt W A l.length s (l.flatMap f) ∧ ∀ x ∈ l, good x := by
  obtain ⟨a0, len0, cap0, rfl⟩ := okWide_slice ht hv
  obtain ⟨fuel, hfu⟩ := h
  rcases open_slice ht hfu with ⟨h0, _⟩ | ⟨a, len, cap, m, n, D, Pl, hcs, _, hl, hm, hmm, _, hi⟩
  · have h0 : [Value.slice a0 len0 cap0] = [.slice none 0 0] := h0
    injection h0 with h0 _
    exact ⟨none, 0, [], h0, Nat.le_refl _, Nat.zero_le _, RowAt.nil _ _ _, fun _ h => by cases h⟩
  · have hcs : [Value.slice a0 len0 cap0] = [.slice (some a) len cap] := hcs
    injection hcs with hcs _
    have hm2 : m = cap := by simpa using hmm
    subst hm2
    obtain ⟨l, h1, h2⟩ := exists_list (α := α) (Q := fun i x => good x ∧ ∀ j u, (f x)[j]? = some u → W.cell? (a.add (i * s + j)) = some u) len (fun i hi' => by
      obtain ⟨cs', hc, ht'⟩ := hi i (by omega)
      rw [hC] at hc
      obtain ⟨_, hcl, hat⟩ := World.cells?_some hc
      obtain ⟨x, hx, hg⟩ := hel _ _ _ hcl ht'
      refine ⟨x, hg, fun j u hu => ?_⟩
      have hj : j < s := by rw [← hf x]; exact (List.getElem?_eq_some_iff.1 hu).1
      have hcell := hat j hj
      rw [← Go.Deep.add_add, hcell, hx]
      exact hu)
    subst h1
    refine ⟨some a, m, l, hcs, hl, hm, ⟨flatMap_len hf l, fun _ => ⟨a, rfl, fun k u hk => ?_⟩⟩, fun x hx => ?_⟩
    · obtain ⟨i, j, x, hi', hj, rfl⟩ := flatMap_get hf l k u hk
      exact (h2 i x hi').2 j u hj
    · obtain ⟨i, hi'⟩ := List.mem_iff_getElem?.1 hx
      exact (h2 i x hi').1
/-- A struct's reading, field by field. -/
theorem struct_fields {e : TypeId} {fs : Array Field} {W : World} {base n : Nat} {sp : Nat → Bool} {held : Bool} {cs : List Value} {y : DataW H × List MemPlace} (he : P.underlying e = some (.struct fs)) (hone : oneCellFields P fs = true) (h : DataW.trod enc P W base sp held n e cs = some y) (_hC : P.cellsOf e = fs.size) (hcl : cs.length = fs.size) :
    ∀ (j : Nat) (fd : Field), fs[j]? = some fd → ∃ v y' n', cs[j]? = some v ∧ DataW.trod enc P W base sp held n' fd.type [v] = some y' := by
  obtain ⟨ys, n', hn', hy, hlen, hyl, hf⟩ := DataW.trod_struct he h
  intro j fd hj
  obtain ⟨ho, hk⟩ := hone_of hone j fd hj
  have hjl : j < fs.size := (Array.getElem?_eq_some_iff.1 hj).1
  have h1 := hf j fd hj
  rw [ho, hk] at h1
  have hone' : (cs.drop j).take 1 = [cs[j]'(by omega)] := by
    rw [List.drop_eq_getElem_cons (by omega)]
    rfl
  rw [hone'] at h1
  have hys : ys[j]? = some (ys[j]'(by omega)) := List.getElem?_eq_getElem (by omega)
  exact ⟨_, _, _, List.getElem?_eq_getElem (by omega), h1.trans hys⟩
end
end Go.Mw
/-
 What the row lists of the library's variables, as the walks want it.
-/
namespace Go.Proofs.YtmkaahkbhdlniaaGreatDoor
open Go Go.Mw Go.Lib Go.RowKit
set_option maxRecDepth 100000
theorem ownIs : ownKnob Tryz.prog.godebug = none := by kernel_rfl
theorem laidIs : laidOutB Tryz.prog = true := by kernel_rfl
def laidL : List (String × DataW Unit) := [("math/bits.deBruijn32tab", Rows.laid_math_bits_deBruijn32tab), ("math/bits.deBruijn64tab", Rows.laid_math_bits_deBruijn64tab), ("internal/strconv.uint64pow10", Rows.laid_internal_strconv_uint64pow10), ("unicode/utf8.acceptRanges", Rows.laid_unicode_utf8_acceptRanges), ("strconv.ErrRange", Rows.laid_strconv_ErrRange), ("strconv.ErrSyntax", Rows.laid_strconv_ErrSyntax), ("unicode/utf8.first", Rows.laid_unicode_utf8_first)]
theorem u8extra : U8Extra Tryz.prog Tryz.lays260_ren := ⟨by kernel_rfl, by kernel_rfl, by kernel_rfl, by kernel_rfl, by kernel_rfl, by kernel_rfl, by kernel_rfl⟩
theorem first_eq : Rows.laid_unicode_utf8_first = firstData := Pinned.utf8First_eq
theorem accept_eq : (Rows.laid_unicode_utf8_acceptRanges : DataW Unit) = acceptData := by kernel_rfl
theorem pow_eq : (Rows.laid_internal_strconv_uint64pow10 : DataW Unit) = tabData .u64 pow10Tab := by kernel_rfl
theorem star_eq : "*" ++ "errors.errorString" = "*errors.errorString" := by decide
theorem errRow (u : TypeId) (h : Tryz.prog.typeName? 3 u = some "*errors.errorString") : u = 264 :=
 typeName_ptr_named (nm := "errors.errorString") (by rw [star_eq]; kernel_rfl) (by kernel_rfl) (by decide) u (by rw [star_eq]; exact h)
theorem cellsErr : Tryz.prog.cellsOf 266 = 1 := by kernel_rfl
theorem cellsStr : Tryz.prog.cellsOf 9 = 1 := by kernel_rfl
theorem tabsX_of {W : World} (h0 : laidMetH Tryz.prog laidL W) (hsh : W.ShapedOpen Tryz.prog) : TabsX W := by
 rw [MakeChecks.laidMetH_plain _ _ _ (by kernel_rfl)] at h0
 have h := h0
 refine ⟨?_, ?_, ?_, ?_, ?_⟩
 ·exact utf8Tabs_of_reads Tryz.lays260 u8extra (first_eq ▸ Lib.laidMet.reads h (by unfold laidL; simp)) (accept_eq ▸ Lib.laidMet.reads h (by unfold laidL; simp))
 ·obtain ⟨g, t, cs, fuel, p, hg, hty, hvar, hd⟩ := Lib.laidMet.reads (n := "internal/strconv.uint64pow10") h (by unfold laidL; exact .tail _ (.tail _ (.head _)))
  have hg' : Tryz.prog.globalNamed "internal/strconv.uint64pow10" = some 3 := by kernel_rfl
  obtain rfl := Option.some.inj (hg'.symm.trans hg)
  have hty' : (Tryz.prog.globals[3]?).map (·.type) = some 257 := by kernel_rfl
  obtain rfl := Option.some.inj (hty'.symm.trans hty)
  rw [pow_eq] at hd
  have hcs := cells_of_tab Tryz.underlying257 Tryz.underlying178 (by kernel_rfl) (by kernel_rfl) hd
  unfold Lib.TabIs
  rw [hvar, ← hcs]
 ·obtain ⟨a, s, hv, _⟩ := laid_sentinel (g := 4) (ti := 125) (tp := 264) (te := 266) (ts := 9) h.tail.tail.tail.tail.tail (by kernel_rfl) (by kernel_rfl) Tryz.underlying125 errRow Tryz.underlying264 Tryz.underlying266 rfl rfl Tryz.underlying9 cellsErr cellsStr
  exact ⟨_, _, hv⟩
 ·obtain ⟨a, s, hv, _⟩ := laid_sentinel (g := 5) (ti := 125) (tp := 264) (te := 266) (ts := 9) h.tail.tail.tail.tail (by kernel_rfl) (by kernel_rfl) Tryz.underlying125 errRow Tryz.underlying264 Tryz.underlying266 rfl rfl Tryz.underlying9 cellsErr cellsStr
  exact ⟨_, _, hv⟩
 ·exact Tryz.laysM219.s1_3 W hsh
end Go.Proofs.YtmkaahkbhdlniaaGreatDoor
/-
 The arguments of the statements on expressions, read as rows.
-/
namespace Go.Proofs.YtmkaahkbhdlniaaGreatDoor
open Go Go.Mw Go.ChangeShapes Go.WideShapes Go.RowKit
set_option maxRecDepth 4000
section
variable {H : Type} {enc : TypeId × Value → H} {W : World} {r : Reach} {base : Nat} {v : Value} {d : DataW H} {ps : List MemPlace}
theorem fits_of {n : Int} {k : IntKind} (hk : k = .i64) (h : (Lit.int k n).wf = true) : fits n := by
 subst hk
 simp [Lit.wf, IntKind.min, IntKind.max, IntKind.bits, IntKind.signed] at h
 unfold fits
 omega
theorem str_of (s : ByteArray) : Value.string s = str s.data.toList := by
 unfold str
 congr 1
theorem step_read {n : Nat} {cs : List Value} {y : DataW H × List MemPlace} (hl : cs.length = 3) (hc : DataW.trod enc Tryz.prog W 0 (fun _ => true) true n 57 cs = some y) : ∃ x : StepM, cs = stepCells x ∧ fits x.n := by
 have hf := struct_fields Tryz.underlying57 (by kernel_rfl) hc (by kernel_rfl) hl
 obtain ⟨v0, _, _, hv0, h0⟩ := hf 0 _ rfl
 obtain ⟨v1, _, _, hv1, h1⟩ := hf 1 _ rfl
 obtain ⟨v2, _, _, hv2, h2⟩ := hf 2 _ rfl
 obtain ⟨b, hb, _, _⟩ := DataW.trod_int Tryz.underlying3 h0
 obtain ⟨m, hm, _, wm⟩ := DataW.trod_int Tryz.underlying2 h1
 obtain ⟨s, hs, _⟩ := DataW.trod_string Tryz.underlying9 h2
 injection hb with hb _
 injection hm with hm _
 injection hs with hs _
 subst hb hm hs
 match cs, hl with
 | [c0, c1, c2], _ =>
  simp at hv0 hv1 hv2
  subst hv0 hv1 hv2
  refine ⟨⟨b, m, s.data.toList⟩, ?_, fits_of rfl wm⟩
  rw [str_of]
  rfl
theorem rowIn_of {α : Type} {f : α → List Value} {k c : Nat} {A : Option Addr} {l : List α} (hc : l.length ≤ c) (hm : c ≤ maxLen) (h : RowAt W A l.length k (l.flatMap f)) : RowIn W (.slice A l.length c) f k l :=
 ⟨A, c, rfl, ⟨hc, by unfold maxLen at hm; omega⟩, h⟩
theorem open_steps (hv : Value.okWide Tryz.prog W r base 23 v) (h : DataW.Trod enc Tryz.prog W 0 (fun _ => true) true 23 v d ps) : ∃ l : List StepM, RowIn W v stepCells 3 l ∧ ∀ x ∈ l, fits x.n := by
 obtain ⟨A, c, l, rfl, h1, h2, h3, h4⟩ := open_rows (f := stepCells) (good := fun x : StepM => fits x.n) (s := 3) Tryz.underlying23 (by kernel_rfl) (fun _ => rfl) (fun n cs y hl hc => step_read hl hc) hv h
 exact ⟨l, rowIn_of h1 h2 h3, h4⟩
theorem open_text (hv : Value.okWide Tryz.prog W r base 9 v) (h : DataW.Trod enc Tryz.prog W 0 (fun _ => true) true 9 v d ps) : ∃ s : List UInt8, v = str s := by
 obtain ⟨s, rfl, _⟩ := Go.ChangeMaps.open_string Tryz.underlying9 hv h
 exact ⟨s.data.toList, str_of s⟩
end
end Go.Proofs.YtmkaahkbhdlniaaGreatDoor
/-
 The closed facts of a row in two parts, so that each is checked by itself. No program stands here.
-/
namespace Go.Proofs.YtmkaahkbhdlniaaGreatDoor
open Go
def facts1 (P : Program) (f : FuncId) (fn : Func) (s : ChangeSpec) (c : OpenClaim) : Bool :=
 c.wf (OpenSpec.ofChange s) && laidOutB P && mapsRowed P &&
 fn.params.all (P.readableRec ·) && namedTie P c.named s.vars &&
 (c.stops == []) && (P.stops == []) && (c.knobs == []) && (P.stopKnobs == []) &&
 (c.inPlace == P.inPlace f) && (c.unfollowed == P.unfollowed f) && (c.recurses == P.recurses f) && (c.named == P.varsNamed f)
def facts2 (P : Program) (fn : Func) (s : ChangeSpec) (c : OpenClaim) : Bool :=
 (c.maps == (fn.params.toList ++ s.plain.varTypes P).any (P.mapsRec ·)) && (c.ifaces == (fn.params.toList ++ s.plain.varTypes P).any (P.ifacesRec ·)) && (c.mapsOut == P.mapsAmong fn.resultTypes.toList) &&
 (c.loops == (fn.params.toList ++ s.plain.varTypes P).any (P.loopsFrom ·)) && (c.wideKeys == (fn.params.toList ++ s.plain.varTypes P ++ fn.resultTypes.toList).any (P.wideKeysFrom ·)) &&
 s.vars.all (P.varReadable ·) && fn.resultTypes.all (fun t => P.readableRec t && decide (t < P.types.size)) && (c.ifacesOut == fn.resultTypes.toList.any (P.ifacesRec ·)) && (c.loopsOut == fn.resultTypes.toList.any (P.loopsFrom ·)) && (c.plainKeys == P.plainKeys) && c.shortTexts.isNone
def facts3 (P : Program) (fn : Func) (s : ChangeSpec) (c : OpenClaim) : Bool :=
 P.stopsHeard && P.mayEnter && (c.lifted == P.liftsFinal) && (P.make == some c.make) && (c.kinds == (if c.domain.isEmpty then [] else fn.params.toList.map fun t => match P.underlying t with | some (.int k) => some k | _ => none)) && (c.pinned == c.pinnedBy) &&
 (c.veiled == (fn.params.toList ++ s.plain.varTypes P ++ fn.resultTypes.toList).any (P.veiledRec ·)) && c.veiledFits P fn.params.toList (fn.params.toList ++ s.plain.varTypes P ++ fn.resultTypes.toList)
theorem joined_of {P : Program} {f : FuncId} {fn : Func} {s : ChangeSpec} {c : OpenClaim} (h1 : facts1 P f fn s c = true) (h2 : facts2 P fn s c = true) (h3 : facts3 P fn s c = true) : joinedFacts P f fn s c = true := by
 simp only [facts1, Bool.and_eq_true] at h1
 simp only [facts2, Bool.and_eq_true] at h2
 simp only [facts3, Bool.and_eq_true] at h3
 simp only [joinedFacts, Bool.and_eq_true]
 simp only [h1, h2, h3, and_self, and_true, true_and]
 exact h3.1.1.1.2
end Go.Proofs.YtmkaahkbhdlniaaGreatDoor
