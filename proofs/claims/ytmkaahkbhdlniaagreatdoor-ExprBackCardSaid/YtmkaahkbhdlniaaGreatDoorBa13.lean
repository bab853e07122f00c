/-
 May a step be, walked.
-/
import Derived.Test.YtmkaahkbhdlniaaGreatDoorBa12
set_option linter.unusedVariables false
set_option linter.unusedSimpArgs false
namespace Go.Mw
open Go.RowKit
section gives
variable {P : Program} {ρ : Operand → Value} {ty : TypeId} {w : World} {x y : Operand} {T U : TypeId} {k : IntKind} {a b : Int}
theorem Gives.andNot (hx : ρ x = .int k a) (hy : ρ y = .int k b) : Gives P ρ (.binOp .andNot T x y U) ty w (.int k (bits .andNot k a b)) w := .bin hx hy (fun _ _ => rfl) (by rw [binOp_andNot]; rfl)
end gives
end Go.Mw
namespace Go.Proofs.YtmkaahkbhdlniaaGreatDoor
open Go Go.Mw Go.Lib
set_option maxRecDepth 4000
theorem nat_andNot1 {y : Nat} (hy : y < 18446744073709551616) : y &&& 18446744073709551614 = 0 ↔ y ≤ 1 := by
 constructor
 ·intro h
  have h1 := Nat.and_div_two (a := y) (b := 18446744073709551614)
  rw [h, show 18446744073709551614 / 2 = 2 ^ 63 - 1 by decide, Nat.and_two_pow_sub_one_eq_mod] at h1
  have h2 : y / 2 % 2 ^ 63 = y / 2 := Nat.mod_eq_of_lt (by omega)
  omega
 ·intro h
  rcases (by omega : y = 0 ∨ y = 1) with rfl | rfl <;> decide
theorem andNot1 {n : Int} (hf : fits n) : bits .andNot .i64 n 1 = 0 ↔ 0 ≤ n ∧ n ≤ 1 := by
 obtain ⟨h0, h1⟩ := hf
 show IntKind.i64.wrap ((BitVec.ofInt 64 n &&& ~~~BitVec.ofInt 64 1).toNat : Int) = 0 ↔ _
 have e1 : (BitVec.ofInt 64 1).toNat = 1 := by decide
 have e2 : (BitVec.ofInt 64 n).toNat = (n % 18446744073709551616).toNat := BitVec.toNat_ofInt n
 have hlt : (n % 18446744073709551616).toNat < 18446744073709551616 := by omega
 rw [BitVec.toNat_and, BitVec.toNat_not, e1, e2, show 2 ^ 64 - 1 - 1 = 18446744073709551614 by decide, IntKind.wrap_i64]
 have hle : (n % 18446744073709551616).toNat &&& 18446744073709551614 ≤ (n % 18446744073709551616).toNat := Nat.and_le_left
 have key := nat_andNot1 hlt
 constructor
 ·intro h
  have : (n % 18446744073709551616).toNat &&& 18446744073709551614 = 0 := by omega
  have := key.1 this
  omega
 ·intro h
  rw [key.2 (by omega)]
  decide
theorem check_text {s : List UInt8} : checkC ⟨4, false⟩ ⟨false, 0, s⟩ = 0 ↔ s.length ≤ 1024 ∧ validD s = true := by
 have e : checkC ⟨4, false⟩ ⟨false, 0, s⟩ = if decide ((0 : Int) = 0 ∧ s.length ≤ 1024 ∧ validD s = true) = true then 0 else 90 := rfl
 rw [e]
 by_cases h : s.length ≤ 1024 ∧ validD s = true
 ·rw [if_pos (decide_eq_true ⟨rfl, h⟩)]; exact ⟨fun _ => h, fun _ => rfl⟩
 ·rw [if_neg (by rw [decide_eq_true_eq]; exact fun e => h e.2)]
  exact ⟨fun e => absurd e (by decide), fun e => absurd e h⟩
theorem check_bytes {s : List UInt8} : checkC ⟨5, false⟩ ⟨false, 0, s⟩ = 0 ↔ s.length ≤ 1024 := by
 have e : checkC ⟨5, false⟩ ⟨false, 0, s⟩ = if decide ((0 : Int) = 0 ∧ s.length ≤ 1024) = true then 0 else 90 := rfl
 rw [e]
 by_cases h : s.length ≤ 1024
 ·rw [if_pos (decide_eq_true ⟨rfl, h⟩)]; exact ⟨fun _ => h, fun _ => rfl⟩
 ·rw [if_neg (by rw [decide_eq_true_eq]; exact fun e => h e.2)]
  exact ⟨fun e => absurd e (by decide), fun e => absurd e h⟩
theorem fits0 : fits 0 := ⟨by decide, by decide⟩
theorem nullW_ne {k : Int} : nullW k ≠ [] ↔ k = 1 ∨ (3 ≤ k ∧ k ≤ 5) := by
 unfold nullW
 split
 ·simp [*]
 split
 ·simp [*]
 split
 ·simp [*]
 split
 ·simp [*]
 ·simp; omega
attribute [local irreducible] checkC nullW
section
variable {w : World}
theorem may_ok (x : StepM) (hf : fits x.n) (hT : TabsU w) : Rets Tryz.prog 42 [agg (stepCells x)] w fun v w' => v = .bool (mayS x) ∧ Kept noB w w' := by
 have H := Sep.start0 w
 obtain ⟨res, hres⟩ : ∃ res, res = mayS x := ⟨_, rfl⟩
 rw [← hres]
 unfold mayS at hres
 refine rets1 Tryz.func42 rfl rfl rfl rfl ?_
 refine Sr ?_
 refine FL_box H (cs := stepCells x) rfl (h := ?_)
 intro b0 w2 H2 k0
 refine Am ?_
 refine Qn ?_
 refine FW_seq ?_
 refine FW_drawS rfl H2 (h := fun hok4 w6 H6 => ?_)
 refine FGp hok4 0 rfl rfl (fun _ => (Gives.field0 rfl)) (by kernel_rfl) ?_
 refine FGload hok4 1 H6 (h := ?_)
 refine FGp hok4 2 rfl rfl (fun _ => (Gives.eqlT rfl rfl)) (by kernel_rfl) ?_
 refine FGp hok4 3 rfl rfl (fun _ => (Gives.field0 rfl)) (by kernel_rfl) ?_
 refine FGload hok4 4 H6 (h := ?_)
 refine FGp hok4 5 rfl rfl (fun _ => (Gives.eql rfl rfl)) (by kernel_rfl) ?_
 refine FGp hok4 6 rfl rfl (fun _ => Gives.assign rfl) (by kernel_rfl) ?_
 refine FGp hok4 7 rfl rfl (fun _ => Gives.assign rfl) (by kernel_rfl) ?_
 refine FG_end hok4 (by kernel_rfl) ?_
 refine Qseq_normal ?_
 refine FW_seq ?_
 refine Sr ?_
 refine Vf ?_
 refine Ld H6 ?_
 refine Qn ?_
 refine FW_block ?_
 refine Sr ?_
 refine Ve ?_
 refine Am ?_
 refine Qn ?_
 refine FW_condP rfl (fun hc19 => ?_) (fun hc19 => ?_)
 ·rw [if_pos hc19] at hres
  refine Sr ?_
  refine Mv ?_
  refine Mv ?_
  refine FL_splitP (t := 16) rfl (fun hs23 => ?_) (fun hs23 => ?_)
  ·have hA := hs23
   refine On ?_
   refine Vf ?_
   refine On ?_
   refine Ld H6 ?_
   refine On ?_
   refine FL_val (Gives.geq rfl rfl) rfl ?_
   refine Pt ?_
   refine Mv ?_
   refine FL_splitP (t := 21) rfl (fun hs30 => ?_) (fun hs30 => ?_)
   ·have hB := hs30
    refine On ?_
    refine Vf ?_
    refine On ?_
    refine Ld H6 ?_
    refine On ?_
    refine FL_val (Gives.leq rfl rfl) rfl ?_
    refine Pt ?_
    refine Am ?_
    refine Qn ?_
    refine Rb (Qfn_ret (hR := ?_))
    exact ⟨congrArg Value.bool (by rw [hres]; exact decide_eq_decide.2 ⟨fun h => ⟨hA, hB, h⟩, fun h => h.2.2⟩), H6.kept⟩
   ·have hB := hs30
    refine Of ?_
    refine Of ?_
    refine Of ?_
    refine Pf ?_
    refine Am ?_
    refine Qn ?_
    refine Rb (Qfn_ret (hR := ?_))
    exact ⟨congrArg Value.bool (by rw [hres]; exact Eq.symm (decide_eq_false fun h => hB h.2.1)), H6.kept⟩
  ·have hA := hs23
   refine Of ?_
   refine Of ?_
   refine Of ?_
   refine Pf ?_
   refine Mv ?_
   refine Of ?_
   refine Of ?_
   refine Of ?_
   refine Pf ?_
   refine Am ?_
   refine Qn ?_
   refine Rb (Qfn_ret (hR := ?_))
   exact ⟨congrArg Value.bool (by rw [hres]; exact Eq.symm (decide_eq_false fun h => hA h.1)), H6.kept⟩
 ·rw [if_neg hc19] at hres
  refine Sr ?_
  refine Ve ?_
  refine Am ?_
  refine Qn ?_
  refine FW_condP rfl (fun hc51 => ?_) (fun hc51 => ?_)
  ·rw [if_pos hc51] at hres
   refine Sr ?_
   refine Mv ?_
   refine Am ?_
   refine Qn ?_
   refine Rb (Qfn_ret (hR := ?_))
   exact ⟨by rw [hres]; rfl, H6.kept⟩
  ·rw [if_neg hc51] at hres
   refine Sr ?_
   refine Ve ?_
   refine Am ?_
   refine Qn ?_
   refine FW_condP rfl (fun hc59 => ?_) (fun hc59 => ?_)
   ·rw [if_pos hc59] at hres
    refine Sr ?_
    refine Mv ?_
    refine Mv ?_
    refine FL_splitP (t := 32) rfl (fun hs63 => ?_) (fun hs63 => ?_)
    ·have hA := hs63
     refine On ?_
     refine Vf ?_
     refine On ?_
     refine Ld H6 ?_
     refine On ?_
     refine FL_val (Gives.andNot rfl rfl) rfl ?_
     refine On ?_
     refine Ve ?_
     refine Pt ?_
     refine Am ?_
     refine Qn ?_
     refine Rb (Qfn_ret (hR := ?_))
     exact ⟨congrArg Value.bool (by rw [hres]; exact decide_eq_decide.2 ⟨fun h => ⟨hA, (andNot1 hf).1 h⟩, fun h => (andNot1 hf).2 h.2⟩), H6.kept⟩
    ·have hA := hs63
     refine Of ?_
     refine Of ?_
     refine Of ?_
     refine Of ?_
     refine Pf ?_
     refine Am ?_
     refine Qn ?_
     refine Rb (Qfn_ret (hR := ?_))
     exact ⟨congrArg Value.bool (by rw [hres]; exact Eq.symm (decide_eq_false fun h => hA h.1)), H6.kept⟩
   ·rw [if_neg hc59] at hres
    refine Sr ?_
    refine Ve ?_
    refine Am ?_
    refine Qn ?_
    refine FW_condP rfl (fun hc79 => ?_) (fun hc79 => ?_)
    ·rw [if_pos hc79] at hres
     refine Sr ?_
     refine Mv ?_
     refine Mv ?_
     refine FL_splitP (t := 41) rfl (fun hs83 => ?_) (fun hs83 => ?_)
     ·have hA := hs83
      refine On ?_
      refine FL_val (Gives.build (out := typeCells ⟨4, false⟩) (Fills.one rfl rfl rfl (by simp) rfl Fills.nil)) rfl ?_
      refine On ?_
      refine Vf ?_
      refine On ?_
      refine Ld H6 ?_
      refine On ?_
      refine FL_val (Gives.build (out := cellCells ⟨false, 0, x.s⟩) (Fills.one rfl rfl rfl (by simp) rfl Fills.nil)) rfl ?_
      refine On ?_
      refine FL_callQ H6 (cellCheck_ok ⟨4, false⟩ ⟨false, 0, x.s⟩ fits0 (hT.keep H6.kept)) (h := fun w90 H90 k89 => ?_)
      refine On ?_
      refine Ve ?_
      refine Pt ?_
      refine Am ?_
      refine Qn ?_
      refine Rb (Qfn_ret (hR := ?_))
      exact ⟨congrArg Value.bool (by rw [hres]; exact decide_eq_decide.2 ⟨fun h => ⟨hA, check_text.1 h⟩, fun h => check_text.2 h.2⟩), H90.kept⟩
     ·have hA := hs83
      refine Of ?_
      refine Of ?_
      refine Of ?_
      refine Of ?_
      refine Of ?_
      refine Of ?_
      refine Pf ?_
      refine Am ?_
      refine Qn ?_
      refine Rb (Qfn_ret (hR := ?_))
      exact ⟨congrArg Value.bool (by rw [hres]; exact Eq.symm (decide_eq_false fun h => hA h.1)), H6.kept⟩
    ·rw [if_neg hc79] at hres
     refine Sr ?_
     refine Ve ?_
     refine Am ?_
     refine Qn ?_
     refine FW_condP rfl (fun hc102 => ?_) (fun hc102 => ?_)
     ·rw [if_pos hc102] at hres
      refine Sr ?_
      refine Mv ?_
      refine Mv ?_
      refine FL_splitP (t := 52) rfl (fun hs106 => ?_) (fun hs106 => ?_)
      ·have hA := hs106
       refine On ?_
       refine FL_val (Gives.build (out := typeCells ⟨5, false⟩) (Fills.one rfl rfl rfl (by simp) rfl Fills.nil)) rfl ?_
       refine On ?_
       refine Vf ?_
       refine On ?_
       refine Ld H6 ?_
       refine On ?_
       refine FL_val (Gives.build (out := cellCells ⟨false, 0, x.s⟩) (Fills.one rfl rfl rfl (by simp) rfl Fills.nil)) rfl ?_
       refine On ?_
       refine FL_callQ H6 (cellCheck_ok ⟨5, false⟩ ⟨false, 0, x.s⟩ fits0 (hT.keep H6.kept)) (h := fun w113 H113 k112 => ?_)
       refine On ?_
       refine Ve ?_
       refine Pt ?_
       refine Am ?_
       refine Qn ?_
       refine Rb (Qfn_ret (hR := ?_))
       exact ⟨congrArg Value.bool (by rw [hres]; exact decide_eq_decide.2 ⟨fun h => ⟨hA, check_bytes.1 h⟩, fun h => check_bytes.2 h.2⟩), H113.kept⟩
      ·have hA := hs106
       refine Of ?_
       refine Of ?_
       refine Of ?_
       refine Of ?_
       refine Of ?_
       refine Of ?_
       refine Pf ?_
       refine Am ?_
       refine Qn ?_
       refine Rb (Qfn_ret (hR := ?_))
       exact ⟨congrArg Value.bool (by rw [hres]; exact Eq.symm (decide_eq_false fun h => hA h.1)), H6.kept⟩
     ·rw [if_neg hc102] at hres
      refine Sr ?_
      refine Ve ?_
      refine Am ?_
      refine Qn ?_
      refine FW_condP rfl (fun hc125 => ?_) (fun hc125 => ?_)
      ·rw [if_pos hc125] at hres
       refine Sr ?_
       refine Mv ?_
       refine Mv ?_
       refine FL_splitP (t := 63) rfl (fun hs129 => ?_) (fun hs129 => ?_)
       ·have hA := hs129
        refine On ?_
        refine Vf ?_
        refine On ?_
        refine Ld H6 ?_
        refine On ?_
        refine FL_callQ H6 (null_ok x.n) (h := fun w134 H134 k133 => ?_)
        refine On ?_
        refine FL_val (Gives.neqT rfl rfl) rfl ?_
        refine Pt ?_
        refine Mv ?_
        refine FL_splitP (t := 69) rfl (fun hs138 => ?_) (fun hs138 => ?_)
        ·have hB := hs138
         refine On ?_
         refine Vf ?_
         refine On ?_
         refine Ld H134 ?_
         refine On ?_
         refine Vf ?_
         refine On ?_
         refine Ld H134 ?_
         refine On ?_
         refine Ve ?_
         refine Pt ?_
         refine Am ?_
         refine Qn ?_
         refine Rb (Qfn_ret (hR := ?_))
         exact ⟨congrArg Value.bool (by rw [hres]; exact decide_eq_decide.2 ⟨fun _ => ⟨hA, nullW_ne.1 hB⟩, fun _ => trivial⟩), H134.kept⟩
        ·have hB := hs138
         refine Of ?_
         refine Of ?_
         refine Of ?_
         refine Of ?_
         refine Of ?_
         refine Pf ?_
         refine Am ?_
         refine Qn ?_
         refine Rb (Qfn_ret (hR := ?_))
         exact ⟨congrArg Value.bool (by rw [hres]; exact Eq.symm (decide_eq_false fun h => hB (nullW_ne.2 h.2))), H134.kept⟩
       ·have hA := hs129
        refine Of ?_
        refine Of ?_
        refine Of ?_
        refine Of ?_
        refine Pf ?_
        refine Mv ?_
        refine Of ?_
        refine Of ?_
        refine Of ?_
        refine Of ?_
        refine Of ?_
        refine Pf ?_
        refine Am ?_
        refine Qn ?_
        refine Rb (Qfn_ret (hR := ?_))
        exact ⟨congrArg Value.bool (by rw [hres]; exact Eq.symm (decide_eq_false fun h => hA h.1)), H6.kept⟩
      ·rw [if_neg hc125] at hres
       refine FW_skip (Qblk_normal (Qseq_normal ?_))
       refine Sr ?_
       refine Vf ?_
       refine Ld H6 ?_
       refine FL_val (Gives.geq rfl rfl) rfl ?_
       refine Mv ?_
       refine FL_splitP (t := 79) rfl (fun hs163 => ?_) (fun hs163 => ?_)
       ·have hA := hs163
        refine On ?_
        refine Vf ?_
        refine On ?_
        refine Ld H6 ?_
        refine On ?_
        refine FL_val (Gives.leq rfl rfl) rfl ?_
        refine Pt ?_
        refine Mv ?_
        refine FL_splitP (t := 84) rfl (fun hs170 => ?_) (fun hs170 => ?_)
        ·have hB := hs170
         refine On ?_
         refine Mv ?_
         refine Pt ?_
         refine Mv ?_
         refine FL_splitP (t := 87) rfl (fun hs175 => ?_) (fun hs175 => ?_)
         ·have hC := hs175
          refine On ?_
          refine Mv ?_
          refine Pt ?_
          refine Am ?_
          refine Qn ?_
          refine FW_ret (Qfn_ret (hR := ?_))
          exact ⟨congrArg Value.bool (by rw [hres]; exact decide_eq_decide.2 ⟨fun h => ⟨hA, hB, h, hC⟩, fun h => h.2.2.1⟩), H6.kept⟩
         ·have hC := hs175
          refine Of ?_
          refine Pf ?_
          refine Am ?_
          refine Qn ?_
          refine FW_ret (Qfn_ret (hR := ?_))
          exact ⟨congrArg Value.bool (by rw [hres]; exact Eq.symm (decide_eq_false fun h => hC h.2.2.2)), H6.kept⟩
        ·have hB := hs170
         refine Of ?_
         refine Pf ?_
         refine Mv ?_
         refine Of ?_
         refine Pf ?_
         refine Am ?_
         refine Qn ?_
         refine FW_ret (Qfn_ret (hR := ?_))
         exact ⟨congrArg Value.bool (by rw [hres]; exact Eq.symm (decide_eq_false fun h => hB h.2.1)), H6.kept⟩
       ·have hA := hs163
        refine Of ?_
        refine Of ?_
        refine Of ?_
        refine Pf ?_
        refine Mv ?_
        refine Of ?_
        refine Pf ?_
        refine Mv ?_
        refine Of ?_
        refine Pf ?_
        refine Am ?_
        refine Qn ?_
        refine FW_ret (Qfn_ret (hR := ?_))
        exact ⟨congrArg Value.bool (by rw [hres]; exact Eq.symm (decide_eq_false fun h => hA h.1)), H6.kept⟩
end
end Go.Proofs.YtmkaahkbhdlniaaGreatDoor
/-
 The program's Type, walked.
-/
namespace Go.Proofs.YtmkaahkbhdlniaaGreatDoor
open Go Go.Mw Go.Lib
set_option maxRecDepth 4000
/-- What is taken off a stack, what stays. -/
def takeV (K : Nat) (A : Option Addr) (n c k : Nat) : Value := if k ≤ n then .slice (if c = n - k then A else A.map (·.add ((n - k) * K))) k (c - (n - k)) else .slice none 0 0
def leftV (A : Option Addr) (n c k : Nat) : Value := if k ≤ n then .slice A (n - k) (n - k) else .slice A n c
theorem takesS_le (k : Int) : takesS k ≤ 2 := by unfold takesS; (repeat' split) <;> omega
theorem mayS_kind {x : StepM} (h : mayS x = true) : 1 ≤ x.kind ∧ x.kind ≤ 18 := by
 unfold mayS at h
 repeat' split at h
 all_goals first | omega | (have := of_decide_eq_true h; omega)
theorem takesS_zero' {k : Int} : takesS k = 0 ↔ k < 7 := by
 unfold takesS
 split
 ·simp [*]
 ·split <;> simp <;> omega
theorem some2_of {α : Type} {k : Int} {st : List α} {d : α} (h7 : 7 ≤ k) (hk : takesS k ≤ st.length) : Some2 k (st.drop (st.length - takesS k)) (st.getD (st.length - takesS k) d) (st.getD (st.length - 1) d) := by
 unfold takesS at hk ⊢
 rw [if_neg (by omega)] at hk ⊢
 by_cases h1 : k = 10 ∨ k = 15 ∨ k = 16 ∨ k = 18
 ·rw [if_pos h1] at hk ⊢
  left
  refine ⟨?_, rfl, h1⟩
  have hlt : st.length - 1 < st.length := by omega
  rw [List.drop_eq_getElem_cons hlt, List.drop_of_length_le (by omega), List.getD_eq_getElem?_getD, List.getElem?_eq_getElem hlt]
  rfl
 ·rw [if_neg h1] at hk ⊢
  right
  refine ⟨?_, by omega⟩
  have hlt : st.length - 2 < st.length := by omega
  have hlt2 : st.length - 2 + 1 < st.length := by omega
  have e : st.length - 1 = st.length - 2 + 1 := by omega
  rw [e, List.drop_eq_getElem_cons hlt, List.drop_eq_getElem_cons hlt2, List.drop_of_length_le (by omega), List.getD_eq_getElem?_getD, List.getElem?_eq_getElem hlt, List.getD_eq_getElem?_getD, List.getElem?_eq_getElem hlt2]
  rfl
/-- The type behind a step. -/
def resS (cols : List ColM) (st : List TypeM) (x : StepM) : Option TypeM :=
 if takesS x.kind = 0 then leafT cols x else madeT x.kind (st.getD (st.length - takesS x.kind) type0) (st.getD (st.length - 1) type0)
theorem stepT_res' {cols : List ColM} {st : List TypeM} {x : StepM} (h1 : mayS x = true) (h2 : takesS x.kind ≤ st.length) : stepT cols st x = (resS cols st x).map fun t => st.take (st.length - takesS x.kind) ++ [t] := by
 unfold stepT resS
 dsimp only
 rw [if_neg (by rw [h1]; simp; omega)]
theorem stepT_no' {cols : List ColM} {st : List TypeM} {x : StepM} (h : mayS x = false ∨ st.length < takesS x.kind) : stepT cols st x = none := by
 unfold stepT
 dsimp only
 rw [if_pos h]
theorem Sep.capD {α : Type} {enc : α → List Value} {k e n c : Nat} {l : List α} {A : Option Addr} {w w₀ : World} {S : Nat → Prop} {rs : List HP} {put : HP → List HP} (H : Sep w₀ S rs w) (hat : At rs (rowD e k enc (.slice A n c) l) put) : c ≤ 9223372036854775807 := by
 obtain ⟨F, hp, _, _⟩ := H.focus hat
 rcases hp.1.2 with ⟨hv, h0⟩ | ⟨g, cap, cur, hv, _, hh, hle, hmax, _⟩
 ·injection hv with _ _ h; omega
 ·injection hv with _ _ h; unfold maxLen at hmax; omega
theorem row_from {α : Type} {enc : α → List Value} {k : Nat} [hk : EncK enc k] {w : World} {A : Option Addr} {l : List α} {c j : Nat} (h : Rd w A enc k l) (hc : l.length ≤ c) (hc2 : c ≤ 9223372036854775807) (hj : j ≤ l.length) : RowIn w (.slice (if c = l.length - j then A else A.map (·.add ((l.length - j) * k))) j (c - (l.length - j))) enc k (l.drop (l.length - j)) := by
 refine ⟨if c = l.length - j then A else A.map (·.add ((l.length - j) * k)), c - (l.length - j), ?_, ⟨?_, ?_⟩, h.fromC (l.length - j) hc⟩
 ·rw [List.length_drop, show l.length - (l.length - j) = j by omega]
 ·rw [List.length_drop]; omega
 ·omega
section
variable {w : World}
theorem typesTakes {b E n c k : Nat} {A : Option Addr} {F : Nat → Prop} {f : FuncId} (hp : (blk b [.slice A n c] E).ok F w) (hk : k ≤ 1000000)
    (hyes : k ≤ n → Rets Tryz.prog f [.pointer (some ⟨b, 0, none⟩), I k] w fun v w' => v = .tuple #[.slice (if c = n - k then A else A.map (·.add ((n - k) * 2))) k (c - (n - k)), .bool true] ∧ Turn F (blk b [.slice A (n - k) (n - k)] E) w w')
    (hno : n < k → Rets Tryz.prog f [.pointer (some ⟨b, 0, none⟩), I k] w fun v w' => v = .tuple #[.slice none 0 0, .bool false] ∧ Turn F (blk b [.slice A n c] E) w w') :
    Rets Tryz.prog f [.pointer (some ⟨b, 0, none⟩), I k] w fun v w' => v = .tuple #[takeV 2 A n c k, .bool (decide (k ≤ n))] ∧ Turn F (blk b [leftV A n c k] E) w w' := by
  by_cases h : k ≤ n
  · rw [takeV, leftV, if_pos h, if_pos h, decide_eq_true h]; exact hyes h
  · rw [takeV, leftV, if_neg h, if_neg h, decide_eq_false h]; exact hno (by omega)
attribute [local irreducible] mayS mayT leafT madeT
theorem typeE_ok {cols : List ColM} {l : List StepM} {vc vl : Value} (hc : RowIn w vc colCells 7 cols) (hl : RowIn w vl stepCells 3 l) (hx : ∀ x ∈ l, fits x.n) (hT : TabsU w) : Rets Tryz.prog 17 [vc, vl] w fun v w' => v = .tuple #[agg (typeCells (typeS cols l).1), I (typeS cols l).2] ∧ Kept noB w w' := by
  have hcc := hc
  obtain ⟨A, m, rfl, ⟨hm, hm'⟩, hA⟩ := hc
  obtain ⟨C, n, rfl, ⟨hn, hn'⟩, hC⟩ := hl
  have H := Sep.start0 w
  obtain ⟨res, hres⟩ : ∃ res, res = typeS cols l := ⟨_, rfl⟩
  rw [← hres]
  unfold typeS at hres
  refine retsC2 Tryz.func17 rfl rfl rfl rfl ?_
  refine Sr ?_
  refine FL_alloc H (h := ?_)
  intro b4 w2 H2 k1
  refine Am ?_
  refine Qn ?_
  refine FW_seq ?_
  refine Sr ?_
  refine Mv ?_
  refine Vs ?_
  refine Vg ?_
  refine Qn ?_
  refine FW_condP rfl (fun hc7 => ?_) (fun hc7 => ?_)
  · rw [if_pos (by omega)] at hres
    refine Sr ?_
    refine FL_val (Gives.build (out := typeCells type0) Fills.nil) rfl ?_
    refine FL_storeAll H2 (h := ?_)
    intro w11 H11
    refine Am ?_
    refine Qn ?_
    refine Rs (QfnC_ret (h := ?_))
    exact ⟨_, resC2 H11, by rw [hres]; rfl, H11.kept⟩
  · rw [if_neg (by omega)] at hres
    refine Sk ?_
    refine Sr ?_
    refine FL_alloc H2 (h := ?_)
    intro b6 w16 H16 k15
    refine Qn ?_
    refine FW_seq ?_
    refine Sr ?_
    refine Mv ?_
    refine Vs ?_
    refine Mv ?_
    refine Qn ?_
    refine FW_block ?_
    have H21 := Sep.nilD H16 29 2 typeCells
    refine FW_loop' (fun x : Nat × List TypeM × Value => [(0, .slice A cols.length m), (4, .pointer (some ⟨b4, 0, none⟩)), (6, .pointer (some ⟨b6, 0, none⟩)), (16, .slice C l.length n), (17, I l.length), (18, I x.1)]) (fun x w' => (x.1 ≤ l.length ∧ x.2.1.length ≤ x.1 ∧ runT cols x.2.1 (l.drop x.1) = runT cols [] l) ∧ Sep w noB [rowD 29 2 typeCells x.2.2 x.2.1, blk b6 [x.2.2] 77, blk b4 (typeCells type0) 29] w') (fun x _ => l.length - x.1) (0, [], .slice none 0 0) ⟨rfl, rfl, rfl, rfl, rfl, rfl, trivial⟩ ⟨⟨Nat.zero_le _, Nat.le_refl _, rfl⟩, H21⟩ (fun x τ w21 hI => ?_)
    obtain ⟨i, st, v0⟩ := x
    obtain ⟨⟨hi, hsl, hst⟩, H21⟩ := hI
    dsimp only at hi hsl hst H21
    obtain ⟨B, cb, rfl, hcb, hB⟩ := Sep.formD H21 At0
    try simp only [upds, like, upd_ds, und_ds]
    refine Sr ?_
    refine Vl ?_
    refine Qn ?_
    refine FW_seq ?_
    refine FW_condP rfl (fun hc23 => ?_) (fun hc23 => ?_)
    · have hlt : i < l.length := by omega
      obtain ⟨x, hx'⟩ := get_some hlt
      have hdr : l.drop i = x :: l.drop (i + 1) := by
        rw [List.drop_eq_getElem_cons hlt]; rw [List.getElem?_eq_getElem hlt] at hx'; injection hx' with hx'; rw [hx']
      rw [hdr, runT] at hst
      have hfx := hx x (List.mem_of_getElem? hx')
      have hk2 := takesS_le x.kind
      refine Sk ?_
      refine FW_seq ?_
      refine FW_block ?_
      refine Sr ?_
      refine FL_val (Gives.idxR rfl rfl (by assumption) (by omega)) rfl ?_
      refine FL_val (Gives.loadE0 rfl H21 (by assumption) (by assumption)) rfl ?_
      refine FL_alloc H21 (h := ?_)
      intro b8 w28 H28 k27
      refine FL_storeAll H28 (h := ?_)
      intro w30 H30
      refine Nx ?_
      refine Vf ?_
      refine Ld H30 ?_
      refine FL_callQ H30 (many_ok x.kind) (h := fun w34 H34 k33 => ?_)
      obtain ⟨F0, hp0, hS0, hput0⟩ := H34.focus At2
      refine FL_call (typesTakes hp0 (by omega) (fun h => typesTake_ok hp0 h hcb (by omega)) (fun h => typesTakeNo_ok hp0 h (by omega))) rfl rfl (fun v' w36 hv => ?_)
      obtain ⟨rfl, hkk, F1, hq, hs⟩ := hv
      have H36 := hput0 _ F1 _ hkk hq hs
      refine Mv ?_
      refine Vx ?_
      refine Vx ?_
      refine Am ?_
      refine Am ?_
      refine Qn ?_
      refine FW_seq ?_
      refine Sr ?_
      refine Mv ?_
      refine FL_val (Gives.notP rfl) rfl ?_
      refine Mv ?_
      refine FL_splitP (t := 31) rfl (fun hs45 => ?_) (fun hs45 => ?_)
      · rw [stepT_no' (.inr (by omega))] at hst
        rw [← hst] at hres
        have hfin : res = (type0, 220) := hres
        refine Of ?_
        refine Of ?_
        refine Of ?_
        refine Pt ?_
        refine Qn ?_
        refine FW_cond_true rfl ?_
        refine Sr ?_
        refine FL_val (Gives.build (out := typeCells type0) Fills.nil) rfl ?_
        refine FL_storeAll H36 (h := ?_)
        intro w50 H50
        refine Am ?_
        refine Qn ?_
        refine Rs (Qblk_ret (Qseq_ret (Qround_ret (Qblk_ret (Qseq_ret (QfnC_ret (h := ?_)))))))
        exact ⟨_, resC2 H50, by rw [hfin]; rfl, H50.kept⟩
      · have hkn : takesS x.kind ≤ st.length := by omega
        rw [takeV, if_pos hkn]
        rw [leftV, if_pos hkn] at H36
        refine On ?_
        refine FL_loadAll H36 (h := ?_)
        refine On ?_
        refine FL_callQ H36 (may_ok x hfx (hT.keep H36.kept)) (h := fun w56 H56 k55 => ?_)
        refine On ?_
        refine FL_val (Gives.not rfl) rfl ?_
        refine Pf ?_
        refine Qn ?_
        refine FW_cond rfl (fun hc59 => ?_) (fun hc59 => ?_)
        · rw [stepT_no' (.inl (by have h := hc59; revert h; cases mayS x <;> simp))] at hst
          rw [← hst] at hres
          have hfin : res = (type0, 220) := hres
          refine Sr ?_
          refine FL_val (Gives.build (out := typeCells type0) Fills.nil) rfl ?_
          refine FL_storeAll H56 (h := ?_)
          intro w63 H63
          refine Am ?_
          refine Qn ?_
          refine Rs (Qblk_ret (Qseq_ret (Qround_ret (Qblk_ret (Qseq_ret (QfnC_ret (h := ?_)))))))
          exact ⟨_, resC2 H63, by rw [hfin]; rfl, H63.kept⟩
        · have hmx : mayS x = true := by have h := hc59; revert h; cases mayS x <;> simp
          obtain ⟨hk1, hk18⟩ := mayS_kind hmx
          rw [stepT_res' hmx hkn] at hst
          refine Sk ?_
          refine Sr ?_
          refine FL_alloc H56 (h := ?_)
          intro b11 w68 H68 k67
          refine Qn ?_
          refine FW_cut (fun tp : TypeM => [(0, .slice A cols.length m), (4, .pointer (some ⟨b4, 0, none⟩)), (6, .pointer (some ⟨b6, 0, none⟩)), (8, .pointer (some ⟨b8, 0, none⟩)), (10, .bool (resS cols st x).isSome), (11, .pointer (some ⟨b11, 0, none⟩)), (16, .slice C l.length n), (17, I l.length), (18, I i)]) (fun tp w' => (∀ y, resS cols st x = some y → tp = y) ∧ Sep w noB [blk b11 (typeCells tp) 29, blk b8 (stepCells x) 57, rowD 29 2 typeCells (.slice B st.length cb) st, blk b6 [.slice B (st.length - takesS x.kind) (st.length - takesS x.kind)] 77, blk b4 (typeCells type0) 29] w') ?_ ?_
          · refine Sr ?_
            refine Mv ?_
            refine Vs ?_
            refine Ve ?_
            refine Qn ?_
            refine FW_condP rfl (fun hc73 => ?_) (fun hc73 => ?_)
            · have hk0 : takesS x.kind = 0 := by omega
              have hrt : resS cols st x = leafT cols x := if_pos hk0
              have hk6 : x.kind ≤ 6 := by have := takesS_zero'.1 hk0; omega
              refine FW_region ?_
              refine Mv ?_
              refine FL_loadAll H68 (h := ?_)
              refine FL_callQ H68 (own_ok x (hcc.keep H68.kept) hk1 hk6) (h := fun w78 H78 k77 => ?_)
              refine Mv ?_
              refine Vx ?_
              refine Vx ?_
              refine FL_storeAll H78 (h := ?_)
              intro w83 H83
              refine Am ?_
              refine FL_nil ?_
              exact Qcut_normal ((leafT cols x).getD type0) ⟨rfl, rfl, rfl, rfl, by rw [hrt]; rfl, rfl, rfl, rfl, rfl, trivial⟩ ⟨fun y hy => by rw [hrt] at hy; rw [hy]; rfl, H83⟩
            · have hk0 : ¬ takesS x.kind = 0 := by omega
              have hrt : resS cols st x = madeT x.kind (st.getD (st.length - takesS x.kind) type0) (st.getD (st.length - 1) type0) := if_neg hk0
              have hk7 : 7 ≤ x.kind := by
                refine Classical.byContradiction fun h => hk0 (takesS_zero'.2 (by omega))
              refine FW_region ?_
              refine Vf ?_
              refine Ld H68 ?_
              refine Mv ?_
              refine FL_call (typed_ok (row_from (Sep_rdD H68 At2) hcb (Sep.capD H68 At2) hkn) (some2_of (d := type0) hk7 hkn) hk7 hk18) rfl rfl (fun v' w91 hv => ?_)
              obtain ⟨⟨tp, rfl, htp⟩, hkk⟩ := hv
              have H91 := H68.keep hkk
              refine Mv ?_
              refine Vx ?_
              refine Vx ?_
              refine FL_storeAll H91 (h := ?_)
              intro w96 H96
              refine Am ?_
              refine FL_nil ?_
              exact Qcut_normal tp ⟨rfl, rfl, rfl, rfl, by rw [hrt]; rfl, rfl, rfl, rfl, rfl, trivial⟩ ⟨fun y hy => by rw [hrt] at hy; exact htp y hy, H96⟩
          · rintro tp τ w100 ⟨htp, H100⟩
            simp only [upds, like, upd_ds]
            refine FW_seq ?_
            refine Sr ?_
            refine Mv ?_
            refine FL_val (Gives.not rfl) rfl ?_
            refine Qn ?_
            refine FW_cond rfl (fun hc103 => ?_) (fun hc103 => ?_)
            · have hno : resS cols st x = none := by
                cases h : resS cols st x with
                | none => rfl
                | some y => rw [h] at hc103; cases hc103
              rw [hno] at hst
              rw [← hst] at hres
              have hfin : res = (type0, 220) := hres
              refine Sr ?_
              refine FL_val (Gives.build (out := typeCells type0) Fills.nil) rfl ?_
              refine FL_storeAll H100 (h := ?_)
              intro w107 H107
              refine Am ?_
              refine Qn ?_
              refine Rs (Qblk_ret (Qseq_ret (Qround_ret (Qblk_ret (Qseq_ret (QfnC_ret (h := ?_)))))))
              exact ⟨_, resC2 H107, by rw [hfin]; rfl, H107.kept⟩
            · obtain ⟨y, hy⟩ : ∃ y, resS cols st x = some y := by
                cases h : resS cols st x with
                | none => rw [h] at hc103; cases hc103
                | some y => exact ⟨y, rfl⟩
              have hty := htp y hy
              subst hty
              rw [hy] at hst
              refine Sk ?_
              refine FW_region ?_
              refine FL_loadAll H100 (h := ?_)
              refine FL_buildSlice H100 (xs := [.tmp 56]) (out := [tp].flatMap typeCells) (Elems.many rfl rfl Elems.nil) rfl rfl rfl (fun bs w113 H113 k112 => ?_)
              obtain ⟨F0, hp0, hS0, hput0⟩ := H113.focus At4
              have htl : (st.take (st.length - takesS x.kind)).length = st.length - takesS x.kind := by rw [List.length_take]; omega
              have hRc := (Sep_rdD H113 At3).cut (st.length - takesS x.kind)
              have hn1 : RowIn _ (.slice (some ⟨bs, 0, none⟩) 1 1) typeCells 2 [tp] := ⟨some ⟨bs, 0, none⟩, 1, rfl, ⟨by simp, by omega⟩, Sep.blkRow H113 At0 rfl⟩
              refine FL_call (typesPut_ok (l := st.take (st.length - takesS x.kind)) (by rw [htl]; exact hp0) hRc hn1 (by simp) (by simp; omega)) rfl rfl (fun v' w115 hv => ?_)
              obtain ⟨v2, rfl, _, hkk, F1, hq, hs⟩ := hv
              have H115 := ((hput0 _ F1 _ hkk hq hs).front4).star0
              refine FL_nil (Qblk_normal (Qseq_normal ?_))
              refine FW_region ?_
              refine FL_val (Gives.addI rfl rfl rfl (by omega)) rfl ?_
              refine Mv ?_
              refine FL_nil ?_
              exact Qround_normal (i + 1, st.take (st.length - takesS x.kind) ++ [tp], v2) ⟨rfl, rfl, rfl, rfl, rfl, rfl, trivial⟩ ⟨⟨by dsimp only; omega, by dsimp only; rw [List.length_append, htl]; simp; omega, hst⟩, (H115.front6.front1.front2).firsts (l := [_, _, _])⟩ (by dsimp only; omega)
    · have hil : i = l.length := by omega
      rw [hil, List.drop_length, runT] at hst
      rw [← hst] at hres
      refine FW_exit (Qseq_exit (Qround_exit (Qblk_exit (Qseq_normal ?_))))
      refine FW_seq ?_
      refine Sr ?_
      refine Vf ?_
      refine Ld H21 ?_
      refine Vs ?_
      refine Vn ?_
      refine Qn ?_
      refine FW_condP rfl (fun hc124 => ?_) (fun hc124 => ?_)
      · have hfin : res = (type0, 220) := by
          rw [hres]
          match st, hc124 with
          | [], _ => rfl
          | [t], h => exact absurd rfl h
          | t :: u :: r, _ => rfl
        refine Sr ?_
        refine FL_val (Gives.build (out := typeCells type0) Fills.nil) rfl ?_
        refine FL_storeAll H21 (h := ?_)
        intro w128 H128
        refine Am ?_
        refine Qn ?_
        refine Rs (QfnC_ret (h := ?_))
        exact ⟨_, resC2 H128, by rw [hfin]; rfl, H128.kept⟩
      · obtain ⟨t, ht⟩ : ∃ t, st = [t] := List.length_eq_one_iff.1 (by omega)
        have hg0 : st[0]? = some t := by rw [ht]; rfl
        have hfin : res = (t, 0) := by rw [hres, ht]
        refine Sk ?_
        refine Sr ?_
        refine Vf ?_
        refine Ld H21 ?_
        refine FL_val (Gives.idxR (i := 0) rfl rfl hB (by omega)) rfl ?_
        refine FL_val (Gives.loadW0 (i := 0) rfl hB hg0) rfl ?_
        refine FL_storeAll H21 (h := ?_)
        intro w137 H137
        refine Am ?_
        refine Qn ?_
        refine FW_ret (QfnC_ret (h := ?_))
        exact ⟨_, resC2 H137, by rw [hfin]; rfl, H137.kept⟩
end
end Go.Proofs.YtmkaahkbhdlniaaGreatDoor
/-
 The program's flags, comparisons and reckoning, walked.
-/
namespace Go.Proofs.YtmkaahkbhdlniaaGreatDoor
open Go Go.Mw Go.Lib
set_option maxRecDepth 4000
def cmpI (a b : Int) : Int := if a < b then -1 else if b < a then 1 else 0
def orI (l : List Int) : Int := (l.find? fun x => decide (x ≠ 0)).getD 0
theorem cmp_or (a b : CellM) (h : a.null = b.null) : orI [cmpI a.n b.n, compareBytes a.s b.s] = cmpC a b := by
 unfold orI cmpI cmpC
 rw [if_pos h]
 by_cases h1 : a.n < b.n
 ·rw [if_pos h1, if_pos h1]; rfl
 ·rw [if_neg h1, if_neg h1]
  by_cases h2 : b.n < a.n
  ·rw [if_pos h2, if_pos h2]; rfl
  ·rw [if_neg h2, if_neg h2]
   rcases cmp_three a.s b.s with e | e | e <;> rw [e] <;> rfl
theorem times_iff {a b : Int} (h0 : a ≠ 0) (ha : fits a) (hb : fits b) : (IntKind.i64.wrap ((IntKind.i64.wrap (a * b)).tdiv a) ≠ b ∨ (a = -1 ∧ b = -9223372036854775808)) ↔ ¬ fitsI (a * b) = true := by
 obtain ⟨ha1, ha2⟩ := ha
 obtain ⟨hb1, hb2⟩ := hb
 by_cases hm : a = -1
 ·subst hm
  have e : (-1 : Int) * b = -b := by omega
  rw [e]
  have hf : fitsI (-b) = decide (b ≠ -9223372036854775808) := by unfold fitsI; rw [decide_eq_decide]; omega
  rw [hf]
  by_cases hmin : b = -9223372036854775808
  ·subst hmin; decide
  ·have e2 : IntKind.i64.wrap (-b) = -b := wrap64 (by omega)
   have e3 : (-b).tdiv (-1) = b := by rw [Int.tdiv_neg, Int.tdiv_one]; omega
   rw [e2, e3, wrap64 ⟨hb1, hb2⟩]
   simp [hmin]
 ·have hq := quo_fits (n := IntKind.i64.wrap (a * b)) (by rw [IntKind.wrap_i64]; omega) h0 hm
  rw [wrap64 hq]
  have := prod_fits (a := b) (b := a) h0 ⟨ha1, ha2⟩
  rw [Int.mul_comm b a] at this
  rw [← this]
  constructor
  ·rintro (h | h)
   ·exact h
   ·exact absurd h.1 hm
  ·exact .inl
section
variable {w : World}
theorem flagE_ok (b : Bool) : Rets Tryz.prog 93 [.bool b] w fun v w' => v = agg (cellCells (flagC b)) ∧ Kept noB w w' := by
 have H := Sep.start0 w
 refine retsC1 Tryz.func93 rfl rfl rfl rfl ?_
 refine Sr ?_
 refine FL_alloc H (h := ?_)
 intro b1 w2 H2 k1
 refine Qn ?_
 refine FW_seq ?_
 refine Sr ?_
 refine Mv ?_
 refine Qn ?_
 refine FW_cond rfl (fun hc4 => ?_) (fun hc4 => ?_)
 ·have hb := hc4
  refine Sr ?_
  refine FL_val (Gives.build (out := cellCells (flagC true)) (Fills.one rfl rfl rfl (by decide) rfl Fills.nil)) rfl ?_
  refine FL_storeAll H2 (h := ?_)
  intro w8 H8
  refine Qn ?_
  refine Rs (QfnC_ret (h := ?_))
  exact ⟨_, resC1 H8, by rw [show b = true by simpa using hb]; rfl, H8.kept⟩
 ·have hb := hc4
  refine Sk ?_
  refine Sr ?_
  refine FL_val (Gives.build (out := cellCells (flagC false)) Fills.nil) rfl ?_
  refine FL_storeAll H2 (h := ?_)
  intro w13 H13
  refine Qn ?_
  refine FW_ret (QfnC_ret (h := ?_))
  exact ⟨_, resC1 H13, by rw [show b = false by simpa using hb]; rfl, H13.kept⟩
theorem isNaN_ok (n : Int) : Rets Tryz.prog 204 [I n] w fun v w' => v = .bool false ∧ w = w' := by
 have H := Sep.start0 w
 refine rets1 Tryz.func204 rfl rfl rfl rfl ?_
 refine Sr ?_
 refine Am ?_
 refine Nx ?_
 refine Mv ?_
 refine Mv ?_
 refine Vn ?_
 refine Am ?_
 refine Qn ?_
 refine FW_ret (Qfn_ret (hR := ?_))
 exact ⟨congrArg Value.bool (by simp), rfl⟩
theorem cmpI_ok (a b : Int) : Rets Tryz.prog 160 [I a, I b] w fun v w' => v = I (cmpI a b) ∧ w = w' := by
 have H := Sep.start0 w
 refine rets2 Tryz.func160 rfl rfl rfl rfl ?_
 refine Sr ?_
 refine Am ?_
 refine Nx ?_
 refine Mv ?_
 refine FL_callS (isNaN_ok a) (h := ?_)
 refine Am ?_
 refine Nx ?_
 refine Mv ?_
 refine FL_callS (isNaN_ok b) (h := ?_)
 refine Am ?_
 refine Qn ?_
 refine FW_seq ?_
 refine Sr ?_
 refine Mv ?_
 refine Qn ?_
 refine FW_cond rfl (fun hc9 => ?_) (fun hc9 => ?_)
 ·cases hc9
 ·refine Sk ?_
  refine FW_seq ?_
  refine Sr ?_
  refine Mv ?_
  refine Qn ?_
  refine FW_cond rfl (fun hc12 => ?_) (fun hc12 => ?_)
  ·cases hc12
  ·refine Sk ?_
   refine FW_seq ?_
   refine Sr ?_
   refine Mv ?_
   refine Mv ?_
   refine Vl ?_
   refine Qn ?_
   refine FW_condP rfl (fun hc17 => ?_) (fun hc17 => ?_)
   ·have h1 := hc17
    refine Sr ?_
    refine Am ?_
    refine Qn ?_
    refine Rs (Qfn_ret (hR := ?_))
    exact ⟨by unfold cmpI; rw [if_pos h1]; rfl, rfl⟩
   ·have h1 := hc17
    refine Sk ?_
    refine FW_seq ?_
    refine Sr ?_
    refine Mv ?_
    refine Mv ?_
    refine Vg ?_
    refine Qn ?_
    refine FW_condP rfl (fun hc25 => ?_) (fun hc25 => ?_)
    ·have h2 := hc25
     refine Sr ?_
     refine Am ?_
     refine Qn ?_
     refine Rs (Qfn_ret (hR := ?_))
     exact ⟨by unfold cmpI; rw [if_neg h1, if_pos (by omega)]; rfl, rfl⟩
    ·have h2 := hc25
     refine Sk ?_
     refine Sr ?_
     refine Am ?_
     refine Qn ?_
     refine FW_ret (Qfn_ret (hR := ?_))
     exact ⟨by unfold cmpI; rw [if_neg h1, if_neg (by omega)]; rfl, rfl⟩
theorem orI_ok {l : List Int} {v : Value} (hl : RowIn w v intCells 1 l) : Rets Tryz.prog 159 [v] w fun v w' => v = I (orI l) ∧ Kept noB w w' := by
 obtain ⟨A, m, rfl, ⟨hm, hm'⟩, hA⟩ := hl
 have H := Sep.start0 w
 refine rets1 Tryz.func159 rfl rfl rfl rfl ?_
 refine Sr ?_
 refine Am ?_
 refine Nx ?_
 refine Am ?_
 refine Qn ?_
 refine FW_seq ?_
 refine Sr ?_
 refine Mv ?_
 refine Vs ?_
 refine Mv ?_
 refine Qn ?_
 refine FW_block ?_
 refine FW_loop' (fun i : Nat => [(3, I 0), (6, .slice A l.length m), (7, I l.length), (8, I i)]) (fun i w' => (i ≤ l.length ∧ orI (l.drop i) = orI l) ∧ Sep w noB [] w') (fun i _ => l.length - i) 0 ⟨rfl, rfl, rfl, rfl, trivial⟩ ⟨⟨Nat.zero_le _, rfl⟩, H⟩ (fun i τ w7 hI => ?_)
 obtain ⟨⟨hi, hst⟩, H7⟩ := hI
 try simp only [upds, like, upd_ds, und_ds]
 refine Sr ?_
 refine Vl ?_
 refine Qn ?_
 refine FW_seq ?_
 refine FW_condP rfl (fun hc9 => ?_) (fun hc9 => ?_)
 ·have hlt : i < l.length := by omega
  obtain ⟨y, hy⟩ := get_some hlt
  have hdr : l.drop i = y :: l.drop (i + 1) := by
   rw [List.drop_eq_getElem_cons hlt]; rw [List.getElem?_eq_getElem hlt] at hy; injection hy with hy; rw [hy]
  rw [hdr] at hst
  refine Sk ?_
  refine FW_seq ?_
  refine FW_block ?_
  refine Sr ?_
  refine FL_val (Gives.idxR rfl rfl (by assumption) (by omega)) rfl ?_
  refine FL_val (Gives.loadE1 rfl H7 (by assumption) (by assumption) rfl) rfl ?_
  refine Am ?_
  refine Nx ?_
  refine Mv ?_
  refine Mv ?_
  refine Vn ?_
  refine Qn ?_
  refine FW_condP rfl (fun hc17 => ?_) (fun hc17 => ?_)
  ·have hfin : orI l = y := by rw [← hst]; unfold orI; rw [List.find?_cons, decide_eq_true hc17]; rfl
   refine Sr ?_
   refine Mv ?_
   refine Am ?_
   refine Qn ?_
   refine Rb (Qround_ret (Qblk_ret (Qseq_ret (Qfn_ret (hR := ?_)))))
   exact ⟨by rw [hfin]; rfl, H7.kept⟩
  ·have hnx : orI (l.drop (i + 1)) = orI l := by rw [← hst]; unfold orI; rw [List.find?_cons, decide_eq_false hc17]
   refine FW_skip (Qblk_normal (Qseq_normal ?_))
   refine FW_region ?_
   refine FL_val (Gives.addI rfl rfl rfl (by omega)) rfl ?_
   refine Mv ?_
   refine FL_nil ?_
   exact Qround_normal (i + 1) ⟨rfl, rfl, rfl, rfl, trivial⟩ ⟨⟨by omega, hnx⟩, H7⟩ (by omega)
 ·have hil : i = l.length := by omega
  rw [hil, List.drop_length] at hst
  refine FW_exit (Qseq_exit (Qround_exit (Qblk_exit (Qseq_normal ?_))))
  refine Sr ?_
  refine Mv ?_
  refine Am ?_
  refine Qn ?_
  refine FW_ret (Qfn_ret (hR := ?_))
  exact ⟨by rw [← hst]; rfl, H7.kept⟩
theorem times_ok (a b : Int) (ha : fits a) (hb : fits b) : Rets Tryz.prog 162 [I a, I b] w fun v w' => (∃ c, v = .tuple #[I c, .bool (fitsI (a * b))] ∧ (fitsI (a * b) = true → c = a * b)) ∧ Kept noB w w' := by
  have H := Sep.start0 w
  refine rets2 Tryz.func162 rfl rfl rfl rfl ?_
  refine Sr ?_
  refine Am ?_
  refine Am ?_
  refine Nx ?_
  refine Mv ?_
  refine Mv ?_
  refine FL_val (Gives.mulW (c := IntKind.i64.wrap (a * b)) rfl rfl rfl) rfl ?_
  refine Am ?_
  refine Qn ?_
  refine FW_seq ?_
  refine Sr ?_
  refine Mv ?_
  refine Vn ?_
  refine Mv ?_
  refine FL_splitP (t := 12) rfl (fun hs10 => ?_) (fun hs10 => ?_)
  · have h0 : a ≠ 0 := by omega
    refine On ?_
    refine Mv ?_
    refine On ?_
    refine Mv ?_
    refine On ?_
    refine FL_val (Gives.quoW (c := IntKind.i64.wrap ((IntKind.i64.wrap (a * b)).tdiv a)) rfl rfl (by omega) rfl) rfl ?_
    refine On ?_
    refine Mv ?_
    refine On ?_
    refine Vn ?_
    refine On ?_
    refine Mv ?_
    refine FL_splitP (t := 18) rfl (fun hs18 => ?_) (fun hs18 => ?_)
    · have hA := hs18
      have hno : fitsI (a * b) = false := by simpa using (times_iff h0 ha hb).1 (.inl hA)
      refine Of ?_
      refine Of ?_
      refine Of ?_
      refine Ou ?_
      refine Ou ?_
      refine Of ?_
      refine On ?_
      refine Pt ?_
      refine Pt ?_
      refine Qn ?_
      refine FW_cond_true rfl ?_
      refine Sr ?_
      refine Am ?_
      refine Am ?_
      refine Qn ?_
      refine Rs (Qfn_ret (hR := ?_))
      exact ⟨⟨0, by rw [hno]; rfl, fun h => by rw [hno] at h; cases h⟩, H.kept⟩
    · have hA := hs18
      refine On ?_
      refine Mv ?_
      refine On ?_
      refine Ve ?_
      refine On ?_
      refine Mv ?_
      refine FL_splitP (t := 21) rfl (fun hs29 => ?_) (fun hs29 => ?_)
      · have hB := hs29
        refine On ?_
        refine Mv ?_
        refine On ?_
        refine Ve ?_
        refine On ?_
        refine Pt ?_
        refine On ?_
        refine Pf ?_
        refine Pt ?_
        refine Qn ?_
        refine FW_condP rfl (fun hc36 => ?_) (fun hc36 => ?_)
        · have hno : fitsI (a * b) = false := by simpa using (times_iff h0 ha hb).1 (.inr ⟨hB, hc36⟩)
          refine Sr ?_
          refine Am ?_
          refine Am ?_
          refine Qn ?_
          refine Rs (Qfn_ret (hR := ?_))
          exact ⟨⟨0, by rw [hno]; rfl, fun h => by rw [hno] at h; cases h⟩, H.kept⟩
        · have hyes : fitsI (a * b) = true := Classical.byContradiction fun h => by
            rcases (times_iff h0 ha hb).2 h with h1 | h1
            · exact hA h1
            · exact hc36 h1.2
          refine Sk ?_
          refine Sr ?_
          refine Mv ?_
          refine Am ?_
          refine Am ?_
          refine Qn ?_
          refine FW_ret (Qfn_ret (hR := ?_))
          exact ⟨⟨IntKind.i64.wrap (a * b), by rw [hyes]; rfl, fun h => wrap64 (of_decide_eq_true h)⟩, H.kept⟩
      · have hB := hs29
        have hyes : fitsI (a * b) = true := Classical.byContradiction fun h => by
          rcases (times_iff h0 ha hb).2 h with h1 | h1
          · exact hA h1
          · exact hB h1.1
        refine Of ?_
        refine Of ?_
        refine On ?_
        refine Pf ?_
        refine On ?_
        refine Pf ?_
        refine Pt ?_
        refine Qn ?_
        refine FW_cond_false rfl ?_
        refine Sk ?_
        refine Sr ?_
        refine Mv ?_
        refine Am ?_
        refine Am ?_
        refine Qn ?_
        refine FW_ret (Qfn_ret (hR := ?_))
        exact ⟨⟨IntKind.i64.wrap (a * b), by rw [hyes]; rfl, fun h => wrap64 (of_decide_eq_true h)⟩, H.kept⟩
  · have h0 : a = 0 := by omega
    have hyes : fitsI (a * b) = true := by rw [h0, Int.zero_mul]; rfl
    refine Of ?_
    refine Of ?_
    refine Of ?_
    refine Of ?_
    refine Of ?_
    refine Of ?_
    refine Ou ?_
    refine Ou ?_
    refine Ou ?_
    refine Ou ?_
    refine Ou ?_
    refine Ou ?_
    refine Of ?_
    refine Pf ?_
    refine Qn ?_
    refine FW_cond_false rfl ?_
    refine Sk ?_
    refine Sr ?_
    refine Mv ?_
    refine Am ?_
    refine Am ?_
    refine Qn ?_
    refine FW_ret (Qfn_ret (hR := ?_))
    exact ⟨⟨IntKind.i64.wrap (a * b), by rw [hyes]; rfl, fun h => wrap64 (of_decide_eq_true h)⟩, H.kept⟩
/-- What numbers make. -/
def reckS (k a b : Int) : Int := if k = 7 then a + b else if k = 8 then a - b else if k = 9 then a * b else -a
theorem reckon_ok (k a b : Int) (ha : fits a) (hb : fits b) : Rets Tryz.prog 95 [I k, I a, I b] w fun v w' => (∃ c, v = .tuple #[I c, .bool (fitsI (reckS k a b))] ∧ (fitsI (reckS k a b) = true → c = reckS k a b)) ∧ Kept noB w w' := by
 have H := Sep.start0 w
 have ha' := ha
 have hb' := hb
 obtain ⟨ha1, ha2⟩ := ha
 obtain ⟨hb1, hb2⟩ := hb
 obtain ⟨res, hres⟩ : ∃ res, res = reckS k a b := ⟨_, rfl⟩
 rw [← hres]
 unfold reckS at hres
 refine rets3 Tryz.func95 rfl rfl rfl rfl ?_
 refine Sr ?_
 refine Am ?_
 refine Am ?_
 refine Qn ?_
 refine FW_seq ?_
 refine Sr ?_
 refine Mv ?_
 refine Qn ?_
 refine FW_block ?_
 refine Sr ?_
 refine Ve ?_
 refine Am ?_
 refine Qn ?_
 refine FW_condP rfl (fun hc6 => ?_) (fun hc6 => ?_)
 ·rw [if_pos hc6] at hres
  refine Sr ?_
  refine Mv ?_
  refine Mv ?_
  refine FL_val (Gives.addW (c := IntKind.i64.wrap (a + b)) rfl rfl rfl) rfl ?_
  refine Am ?_
  refine Nx ?_
  refine Mv ?_
  refine Mv ?_
  refine Mv ?_
  refine Vg ?_
  refine Mv ?_
  refine Vg ?_
  refine FL_val (Gives.eqlB rfl rfl) rfl ?_
  refine Am ?_
  refine Am ?_
  refine Qn ?_
  refine Rb (Qfn_ret (hR := ?_))
  exact ⟨⟨_, congrArg (fun b => Value.tuple #[I _, .bool b]) (by rw [hres]; unfold fitsI; rw [Bool.eq_iff_iff, beq_iff_eq, decide_eq_decide, decide_eq_true_eq, IntKind.wrap_i64]; omega), fun h => by have := of_decide_eq_true h; rw [hres] at this ⊢; exact wrap64 this⟩, H.kept⟩
 ·rw [if_neg hc6] at hres
  refine Sr ?_
  refine Ve ?_
  refine Am ?_
  refine Qn ?_
  refine FW_condP rfl (fun hc25 => ?_) (fun hc25 => ?_)
  ·rw [if_pos hc25] at hres
   refine Sr ?_
   refine Mv ?_
   refine Mv ?_
   refine FL_val (Gives.subW (c := IntKind.i64.wrap (a - b)) rfl rfl rfl) rfl ?_
   refine Am ?_
   refine Nx ?_
   refine Mv ?_
   refine Mv ?_
   refine Mv ?_
   refine Vl ?_
   refine Mv ?_
   refine Vg ?_
   refine FL_val (Gives.eqlB rfl rfl) rfl ?_
   refine Am ?_
   refine Am ?_
   refine Qn ?_
   refine Rb (Qfn_ret (hR := ?_))
   exact ⟨⟨_, congrArg (fun b => Value.tuple #[I _, .bool b]) (by rw [hres]; unfold fitsI; rw [Bool.eq_iff_iff, beq_iff_eq, decide_eq_decide, decide_eq_true_eq, IntKind.wrap_i64]; omega), fun h => by have := of_decide_eq_true h; rw [hres] at this ⊢; exact wrap64 this⟩, H.kept⟩
  ·rw [if_neg hc25] at hres
   refine Sr ?_
   refine Ve ?_
   refine Am ?_
   refine Qn ?_
   refine FW_condP rfl (fun hc44 => ?_) (fun hc44 => ?_)
   ·rw [if_pos hc44] at hres
    refine Sr ?_
    refine Mv ?_
    refine Mv ?_
    refine FL_call (times_ok a b ha' hb') rfl rfl (fun v' w49 hv => ?_)
    obtain ⟨⟨cp, rfl, hcp⟩, hkk⟩ := hv
    have H49 := H.keep hkk
    refine Vx ?_
    refine Vx ?_
    refine Am ?_
    refine Am ?_
    refine Qn ?_
    refine Rb (Qfn_ret (hR := ?_))
    exact ⟨⟨cp, by rw [hres]; rfl, fun h => by rw [hres] at h ⊢; exact hcp h⟩, H49.kept⟩
   ·rw [if_neg hc44] at hres
    refine FW_skip (Qblk_normal (Qseq_normal ?_))
    refine Sr ?_
    refine Mv ?_
    refine FL_val (Gives.negW (c := IntKind.i64.wrap (0 - a)) rfl rfl) rfl ?_
    refine Mv ?_
    refine Vn ?_
    refine Am ?_
    refine Am ?_
    refine Qn ?_
    refine FW_ret (Qfn_ret (hR := ?_))
    exact ⟨⟨_, congrArg (fun b => Value.tuple #[I (IntKind.i64.wrap (0 - a)), .bool b]) (by rw [hres]; unfold fitsI; rw [decide_eq_decide]; omega), fun h => by have := of_decide_eq_true h; rw [hres] at this ⊢; rw [wrap64 (by omega)]; omega⟩, H.kept⟩
end
end Go.Proofs.YtmkaahkbhdlniaaGreatDoor
