/-
 Whether a cell is of a type; may a step be; walked.
-/
import Derived.Test.YtolaedhdjcnijaaGreatDoorKs11
import Derived.Test.YtolaedhdjcnijaaGreatDoorKs9
import Derived.Lib.RowBridge
set_option linter.unusedVariables false
set_option linter.unusedSimpArgs false
namespace Go.Proofs.YtolaedhdjcnijaaGreatDoor
open Go Go.Mw Go.Lib
set_option maxRecDepth 4000
attribute [local irreducible] mayT isP kindF
section
variable {w : World}
theorem mayT_iff {t : TypeM} : mayT t = true ↔ 1 ≤ t.kind ∧ t.kind ≤ 5 := by unfold mayT; exact decide_eq_true_iff
theorem cellCheck_ok (t : TypeM) (c : CellM) (hf : fits c.n) (hT : TabsU w) : Rets Tryz.prog 102 [agg (typeCells t), agg (cellCells c)] w fun v w' => v = I (checkC t c) ∧ Kept noB w w' := by
 have H := Sep.start0 w
 obtain ⟨res, hres⟩ : ∃ res, res = checkC t c := ⟨_, rfl⟩
 rw [← hres]
 unfold checkC at hres
 refine rets2 Tryz.func102 rfl rfl rfl rfl ?_
 refine Sr (FL_box H (cs := typeCells t) rfl (h := fun b0 w2 H2 k0 => ?_))
 refine FL_box H2 (cs := cellCells c) rfl (h := fun b1 w4 H4 k1 => ?_)
 refine Am ?_
 refine Qn (FW_seq (FW_block (Sr (FL_loadAll H4 (h := ?_)))))
 refine FL_callQ H4 (cellMay_ok t) (h := fun w8 H8 k7 => ?_)
 refine Vv (Gives.not rfl) (Am ?_)
 refine Qn (Cd rfl (fun hc11 => ?_) (fun hc11 => ?_))
 ·have hm : mayT t = false := by have h := hc11; revert h; cases mayT t <;> simp
  rw [if_pos hm] at hres
  refine Sr (Am ?_)
  refine Qn (Rb (Qfn_ret (hR := ?_)))
  exact ⟨by rw [hres]; rfl, H8.kept⟩
 have hm : mayT t = true := by have h := hc11; revert h; cases mayT t <;> simp
 rw [if_neg (by rw [hm]; simp)] at hres
 obtain ⟨h1, h5⟩ := mayT_iff.1 hm
 refine FW_seq (Sr (Vf ?_))
 refine Ld H8 ?_
 refine Mv ?_
 refine FL_split (t := 12) rfl (fun hs19 => ?_) (fun hs19 => ?_)
 ·have hnull : c.null = true := hs19
  rw [if_pos hnull] at hres
  refine On (Vf ?_)
  refine On (Ld H8 ?_)
  refine On (Vv (Gives.not rfl) (On ?_))
  refine Mv ?_
  refine FL_split (t := 16) rfl (fun hs25 => ?_) (fun hs25 => ?_)
  ·have htn : t.null = false := by have h := hs25; revert h; cases t.null <;> simp
   rw [if_neg (by rw [htn]; simp)] at hres
   refine Of (Of (Of (On (Pt ?_))))
   refine Pt ?_
   refine Am ?_
   refine Qn (FW_cond_true rfl ?_)
   refine Sk (FW_cond_true rfl ?_)
   refine Sr (Am ?_)
   refine Qn (Rb (Qfn_ret (hR := ?_)))
   exact ⟨by rw [hres]; rfl, H8.kept⟩
  have htn : t.null = true := by have h := hs25; revert h; cases t.null <;> simp
  refine On (FL_loadAll H8 (h := ?_))
  refine On (Vv (Gives.build (out := cellCells cellNull) (Fills.one rfl rfl rfl (by simp) rfl Fills.nil)) (On ?_))
  refine Vv (Gives.neqG (enc := cellCells) _ _ rfl rfl) (On ?_)
  refine Pf ?_
  refine Pt ?_
  refine Am ?_
  refine Qn (Cp rfl (fun hc39 => ?_) (fun hc39 => ?_))
  ·rw [if_neg (fun h => hc39 h.2)] at hres
   refine Sk (FW_cond_true (congrArg Value.bool (decide_eq_true hc39)) ?_)
   refine Sr (Am ?_)
   refine Qn (Rb (Qfn_ret (hR := ?_)))
   exact ⟨by rw [hres]; rfl, H8.kept⟩
  rw [if_pos ⟨htn, Classical.not_not.1 hc39⟩] at hres
  refine FW_drawS rfl H8 (h := fun hok44 w46 H46 => ?_)
  refine Gp hok44 0 rfl rfl (fun _ => (Gives.field0 rfl)) (FGload hok44 1 H46 (h := ?_))
  refine Gp hok44 2 rfl rfl (fun _ => (Gives.not rfl)) (Gm hok44 3 ?_)
  refine FG_split (t := 25) rfl (fun hs50 => ?_) (fun hs50 => ?_)
  ·exact absurd hs50 (by rw [hnull]; simp)
  refine FGoff hok44 4 rfl rfl (by kernel_rfl) ?_
  refine FGoff hok44 7 rfl rfl (by kernel_rfl) ?_
  refine FGoff hok44 5 rfl rfl (by kernel_rfl) ?_
  refine FGoff hok44 6 rfl rfl (by kernel_rfl) ?_
  refine FGoff hok44 8 rfl rfl (by kernel_rfl) ?_
  refine FGoff hok44 9 rfl rfl (by kernel_rfl) ?_
  refine Gp hok44 10 rfl rfl (fun _ => Gives.pickF rfl rfl) (Gp hok44 11 rfl rfl (fun _ => Gives.assign rfl) ?_)
  refine FG_end hok44 (by kernel_rfl) ?_
  refine Qseq_normal (FW_cond_false rfl ?_)
  refine FW_skip (Qblk_normal (Qseq_normal (Sr (Am ?_))))
  refine Qn (FW_ret (Qfn_ret (hR := ?_)))
  exact ⟨by rw [hres]; rfl, H46.kept⟩
 have hnull : ¬ c.null = true := by have h := hs19; simpa using h
 rw [if_neg hnull, ← isP_eq hf] at hres
 refine Of (Of (Of (Of (Ou (Ou (Ou (Of (Pf ?_))))))))
 refine Am ?_
 refine Qn (FW_cond_false rfl ?_)
 refine FW_drawS rfl H8 (h := fun hok59 w61 H61 => ?_)
 refine Gp hok59 0 rfl rfl (fun _ => (Gives.field0 rfl)) (FGload hok59 1 H61 (h := ?_))
 refine Gp hok59 2 rfl rfl (fun _ => (Gives.not rfl)) (Gm hok59 3 ?_)
 refine FG_split (t := 25) rfl (fun hs65 => ?_) (fun hs65 => ?_)
 ·refine FGloadAll hok59 4 H61 (h := ?_)
  refine FGloadAll hok59 7 H61 (h := ?_)
  refine FGcall hok59 5 [(7, false)] rfl (by kernel_rfl) (of_ok t h1 h5 (hT.keep H61.kept)) rfl (by kernel_rfl) (by kernel_rfl) (fun v' w69 hv => ?_)
  obtain ⟨⟨isF, rfl, hp⟩, hkk⟩ := hv
  obtain ⟨f, fs, cs, rfl, hen, hcall⟩ := hp
  have H69 := H61.keep hkk
  refine ⟨(Stab_cons rfl (by kernel_rfl) (Gives.loadN rfl (H69.obj At0) (us := cellCells c) rfl rfl) rfl (Stab_nil)), ?_⟩
  refine Gp hok59 6 rfl rfl (fun _ => (Gives.fieldOf1 rfl rfl)) (FGcallV hok59 8 [] (y := .tmp 28) (f := f) (fs := fs) (cs := cs) (vals := [agg (cellCells c)]) rfl (hcall c _ (Kept.refl _ _)) (h := fun v' w72 hv => ?_))
  obtain ⟨rfl, hkk2⟩ := hv
  have H72 := H69.keep hkk2
  refine ⟨Stab_nil, ?_⟩
  refine Gp hok59 9 rfl rfl (fun _ => (Gives.not rfl)) (Gp hok59 10 rfl rfl (fun _ => Gives.pickT rfl rfl) ?_)
  refine Gp hok59 11 rfl rfl (fun _ => Gives.assign rfl) (FG_end hok59 (by kernel_rfl) ?_)
  refine Qseq_normal (Cd rfl (fun hc76 => ?_) (fun hc76 => ?_))
  ·rw [if_neg (by have h := hc76; revert h; cases isP t.kind c <;> simp)] at hres
   refine Sr (Am ?_)
   refine Qn (Rb (Qfn_ret (hR := ?_)))
   exact ⟨by rw [hres]; rfl, H72.kept⟩
  rw [if_pos (by have h := hc76; revert h; cases isP t.kind c <;> simp)] at hres
  refine FW_skip (Qblk_normal (Qseq_normal (Sr (Am ?_))))
  refine Qn (FW_ret (Qfn_ret (hR := ?_)))
  exact ⟨by rw [hres]; rfl, H72.kept⟩
 exact absurd (show c.null = true by have h := hs65; revert h; cases c.null <;> simp) hnull
end
end Go.Proofs.YtolaedhdjcnijaaGreatDoor
namespace Go.Mw
open Go.RowKit
section gives
variable {P : Program} {ρ : Operand → Value} {ty : TypeId} {w : World} {x y : Operand} {T U : TypeId} {k : IntKind} {a b : Int}
theorem Gives.andNot (hx : ρ x = .int k a) (hy : ρ y = .int k b) : Gives P ρ (.binOp .andNot T x y U) ty w (.int k (bits .andNot k a b)) w := .bin hx hy (fun _ _ => rfl) (by rw [binOp_andNot]; rfl)
end gives
end Go.Mw
namespace Go.Proofs.YtolaedhdjcnijaaGreatDoor
open Go Go.Mw Go.Lib
set_option maxRecDepth 4000
theorem nat_andNot1 {y : Nat} (hy : y < 18446744073709551616) : y &&& 18446744073709551614 = 0 ↔ y ≤ 1 := by
 constructor
 ·intro h
  have h1 := Nat.and_div_two (a := y) (b := 18446744073709551614)
  rw [h, show 18446744073709551614 / 2 = 2 ^ 63 - 1 by decide, Nat.and_two_pow_sub_one_eq_mod] at h1
  have h2 : y / 2 % 2 ^ 63 = y / 2 := Nat.mod_eq_of_lt (by omega)
  omega
 intro h
 rcases (by omega : y = 0 ∨ y = 1) with rfl | rfl <;> decide
theorem andNot1 {n : Int} (hf : fits n) : bits .andNot .i64 n 1 = 0 ↔ 0 ≤ n ∧ n ≤ 1 := by
 obtain ⟨h0, h1⟩ := hf
 show IntKind.i64.wrap ((BitVec.ofInt 64 n &&& ~~~BitVec.ofInt 64 1).toNat : Int) = 0 ↔ _
 have e1 : (BitVec.ofInt 64 1).toNat = 1 := by decide
 have e2 : (BitVec.ofInt 64 n).toNat = (n % 18446744073709551616).toNat := BitVec.toNat_ofInt n
 have hlt : (n % 18446744073709551616).toNat < 18446744073709551616 := by omega
 rw [BitVec.toNat_and, BitVec.toNat_not, e1, e2, show 2 ^ 64 - 1 - 1 = 18446744073709551614 by decide, IntKind.wrap_i64]
 have hle : (n % 18446744073709551616).toNat &&& 18446744073709551614 ≤ (n % 18446744073709551616).toNat := Nat.and_le_left
 have key := nat_andNot1 hlt
 constructor
 ·intro h
  have : (n % 18446744073709551616).toNat &&& 18446744073709551614 = 0 := by omega
  have := key.1 this
  omega
 intro h
 rw [key.2 (by omega)]
 decide
theorem check_text {s : List UInt8} : checkC ⟨4, false⟩ ⟨false, 0, s⟩ = 0 ↔ s.length ≤ 1024 ∧ validD s = true := by
 have e : checkC ⟨4, false⟩ ⟨false, 0, s⟩ = if decide ((0 : Int) = 0 ∧ s.length ≤ 1024 ∧ validD s = true) = true then 0 else 90 := rfl
 rw [e]
 by_cases h : s.length ≤ 1024 ∧ validD s = true
 ·rw [if_pos (decide_eq_true ⟨rfl, h⟩)]; exact ⟨fun _ => h, fun _ => rfl⟩
 rw [if_neg (by rw [decide_eq_true_eq]; exact fun e => h e.2)]
 exact ⟨fun e => absurd e (by decide), fun e => absurd e h⟩
theorem check_bytes {s : List UInt8} : checkC ⟨5, false⟩ ⟨false, 0, s⟩ = 0 ↔ s.length ≤ 1024 := by
 have e : checkC ⟨5, false⟩ ⟨false, 0, s⟩ = if decide ((0 : Int) = 0 ∧ s.length ≤ 1024) = true then 0 else 90 := rfl
 rw [e]
 by_cases h : s.length ≤ 1024
 ·rw [if_pos (decide_eq_true ⟨rfl, h⟩)]; exact ⟨fun _ => h, fun _ => rfl⟩
 rw [if_neg (by rw [decide_eq_true_eq]; exact fun e => h e.2)]
 exact ⟨fun e => absurd e (by decide), fun e => absurd e h⟩
theorem fits0 : fits 0 := ⟨by decide, by decide⟩
theorem nullW_ne {k : Int} : nullW k ≠ [] ↔ k = 1 ∨ (3 ≤ k ∧ k ≤ 5) := by
 unfold nullW
 split
 ·simp [*]
 split
 ·simp [*]
 split
 ·simp [*]
 split
 ·simp [*]
 simp; omega
attribute [local irreducible] checkC nullW
section
variable {w : World}
theorem may_ok (x : StepM) (hf : fits x.n) (hT : TabsU w) : Rets Tryz.prog 65 [agg (stepCells x)] w fun v w' => v = .bool (mayS x) ∧ Kept noB w w' := by
 have H := Sep.start0 w
 obtain ⟨res, hres⟩ : ∃ res, res = mayS x := ⟨_, rfl⟩
 rw [← hres]
 unfold mayS at hres
 refine rets1 Tryz.func65 rfl rfl rfl rfl ?_
 refine Sr (FL_box H (cs := stepCells x) rfl (h := fun b0 w2 H2 k0 => ?_))
 refine Am ?_
 refine Qn (FW_seq (FW_drawS rfl H2 (h := fun hok4 w6 H6 => ?_)))
 refine Gp hok4 0 rfl rfl (fun _ => (Gives.field0 rfl)) (FGload hok4 1 H6 (h := ?_))
 refine Gp hok4 2 rfl rfl (fun _ => (Gives.eqlT rfl rfl)) (Gp hok4 3 rfl rfl (fun _ => (Gives.field0 rfl)) ?_)
 refine FGload hok4 4 H6 (h := ?_)
 refine Gp hok4 5 rfl rfl (fun _ => (Gives.eql rfl rfl)) (Gp hok4 6 rfl rfl (fun _ => Gives.assign rfl) ?_)
 refine Gp hok4 7 rfl rfl (fun _ => Gives.assign rfl) (FG_end hok4 (by kernel_rfl) ?_)
 refine Qseq_normal (FW_seq (Sr (Vf ?_)))
 refine Ld H6 ?_
 refine Qn (FW_block (Sr (Ve ?_)))
 refine Am ?_
 refine Qn (Cp rfl (fun hc19 => ?_) (fun hc19 => ?_))
 ·rw [if_pos hc19] at hres
  refine Sr (Mv ?_)
  refine Mv ?_
  refine FL_splitP (t := 16) rfl (fun hs23 => ?_) (fun hs23 => ?_)
  ·have hA := hs23
   refine On (Vf ?_)
   refine On (Ld H6 ?_)
   refine On (Vv (Gives.geq rfl rfl) (Pt ?_))
   refine Mv ?_
   refine FL_splitP (t := 21) rfl (fun hs30 => ?_) (fun hs30 => ?_)
   ·have hB := hs30
    refine On (Vf ?_)
    refine On (Ld H6 ?_)
    refine On (Vv (Gives.leq rfl rfl) (Pt ?_))
    refine Am ?_
    refine Qn (Rb (Qfn_ret (hR := ?_)))
    exact ⟨congrArg Value.bool (by rw [hres]; exact decide_eq_decide.2 ⟨fun h => ⟨hA, hB, h⟩, fun h => h.2.2⟩), H6.kept⟩
   have hB := hs30
   refine Of (Of (Of (Pf ?_)))
   refine Am ?_
   refine Qn (Rb (Qfn_ret (hR := ?_)))
   exact ⟨congrArg Value.bool (by rw [hres]; exact Eq.symm (decide_eq_false fun h => hB h.2.1)), H6.kept⟩
  have hA := hs23
  refine Of (Of (Of (Pf ?_)))
  refine Mv ?_
  refine Of (Of (Of (Pf ?_)))
  refine Am ?_
  refine Qn (Rb (Qfn_ret (hR := ?_)))
  exact ⟨congrArg Value.bool (by rw [hres]; exact Eq.symm (decide_eq_false fun h => hA h.1)), H6.kept⟩
 rw [if_neg hc19] at hres
 refine Sr (Ve ?_)
 refine Am ?_
 refine Qn (Cp rfl (fun hc51 => ?_) (fun hc51 => ?_))
 ·rw [if_pos hc51] at hres
  refine Sr (Mv ?_)
  refine Am ?_
  refine Qn (Rb (Qfn_ret (hR := ?_)))
  exact ⟨by rw [hres]; rfl, H6.kept⟩
 rw [if_neg hc51] at hres
 refine Sr (Ve ?_)
 refine Am ?_
 refine Qn (Cp rfl (fun hc59 => ?_) (fun hc59 => ?_))
 ·rw [if_pos hc59] at hres
  refine Sr (Mv ?_)
  refine Mv ?_
  refine FL_splitP (t := 32) rfl (fun hs63 => ?_) (fun hs63 => ?_)
  ·have hA := hs63
   refine On (Vf ?_)
   refine On (Ld H6 ?_)
   refine On (Vv (Gives.andNot rfl rfl) (On ?_))
   refine Ve ?_
   refine Pt ?_
   refine Am ?_
   refine Qn (Rb (Qfn_ret (hR := ?_)))
   exact ⟨congrArg Value.bool (by rw [hres]; exact decide_eq_decide.2 ⟨fun h => ⟨hA, (andNot1 hf).1 h⟩, fun h => (andNot1 hf).2 h.2⟩), H6.kept⟩
  have hA := hs63
  refine Of (Of (Of (Of (Pf ?_))))
  refine Am ?_
  refine Qn (Rb (Qfn_ret (hR := ?_)))
  exact ⟨congrArg Value.bool (by rw [hres]; exact Eq.symm (decide_eq_false fun h => hA h.1)), H6.kept⟩
 rw [if_neg hc59] at hres
 refine Sr (Ve ?_)
 refine Am ?_
 refine Qn (Cp rfl (fun hc79 => ?_) (fun hc79 => ?_))
 ·rw [if_pos hc79] at hres
  refine Sr (Mv ?_)
  refine Mv ?_
  refine FL_splitP (t := 41) rfl (fun hs83 => ?_) (fun hs83 => ?_)
  ·have hA := hs83
   refine On (Vv (Gives.build (out := typeCells ⟨4, false⟩) (Fills.one rfl rfl rfl (by simp) rfl Fills.nil)) (On ?_))
   refine Vf ?_
   refine On (Ld H6 ?_)
   refine On (Vv (Gives.build (out := cellCells ⟨false, 0, x.s⟩) (Fills.one rfl rfl rfl (by simp) rfl Fills.nil)) (On ?_))
   refine FL_callQ H6 (cellCheck_ok ⟨4, false⟩ ⟨false, 0, x.s⟩ fits0 (hT.keep H6.kept)) (h := fun w90 H90 k89 => ?_)
   refine On (Ve ?_)
   refine Pt ?_
   refine Am ?_
   refine Qn (Rb (Qfn_ret (hR := ?_)))
   exact ⟨congrArg Value.bool (by rw [hres]; exact decide_eq_decide.2 ⟨fun h => ⟨hA, check_text.1 h⟩, fun h => check_text.2 h.2⟩), H90.kept⟩
  have hA := hs83
  refine Of (Of (Of (Of (Of (Of (Pf ?_))))))
  refine Am ?_
  refine Qn (Rb (Qfn_ret (hR := ?_)))
  exact ⟨congrArg Value.bool (by rw [hres]; exact Eq.symm (decide_eq_false fun h => hA h.1)), H6.kept⟩
 rw [if_neg hc79] at hres
 refine Sr (Ve ?_)
 refine Am ?_
 refine Qn (Cp rfl (fun hc102 => ?_) (fun hc102 => ?_))
 ·rw [if_pos hc102] at hres
  refine Sr (Mv ?_)
  refine Mv ?_
  refine FL_splitP (t := 52) rfl (fun hs106 => ?_) (fun hs106 => ?_)
  ·have hA := hs106
   refine On (Vv (Gives.build (out := typeCells ⟨5, false⟩) (Fills.one rfl rfl rfl (by simp) rfl Fills.nil)) (On ?_))
   refine Vf ?_
   refine On (Ld H6 ?_)
   refine On (Vv (Gives.build (out := cellCells ⟨false, 0, x.s⟩) (Fills.one rfl rfl rfl (by simp) rfl Fills.nil)) (On ?_))
   refine FL_callQ H6 (cellCheck_ok ⟨5, false⟩ ⟨false, 0, x.s⟩ fits0 (hT.keep H6.kept)) (h := fun w113 H113 k112 => ?_)
   refine On (Ve ?_)
   refine Pt ?_
   refine Am ?_
   refine Qn (Rb (Qfn_ret (hR := ?_)))
   exact ⟨congrArg Value.bool (by rw [hres]; exact decide_eq_decide.2 ⟨fun h => ⟨hA, check_bytes.1 h⟩, fun h => check_bytes.2 h.2⟩), H113.kept⟩
  have hA := hs106
  refine Of (Of (Of (Of (Of (Of (Pf ?_))))))
  refine Am ?_
  refine Qn (Rb (Qfn_ret (hR := ?_)))
  exact ⟨congrArg Value.bool (by rw [hres]; exact Eq.symm (decide_eq_false fun h => hA h.1)), H6.kept⟩
 rw [if_neg hc102] at hres
 refine Sr (Ve ?_)
 refine Am ?_
 refine Qn (Cp rfl (fun hc125 => ?_) (fun hc125 => ?_))
 ·rw [if_pos hc125] at hres
  refine Sr (Mv ?_)
  refine Mv ?_
  refine FL_splitP (t := 63) rfl (fun hs129 => ?_) (fun hs129 => ?_)
  ·have hA := hs129
   refine On (Vf ?_)
   refine On (Ld H6 ?_)
   refine On (FL_callQ H6 (null_ok x.n) (h := fun w134 H134 k133 => ?_))
   refine On (Vv (Gives.neqT rfl rfl) (Pt ?_))
   refine Mv ?_
   refine FL_splitP (t := 69) rfl (fun hs138 => ?_) (fun hs138 => ?_)
   ·have hB := hs138
    refine On (Vf ?_)
    refine On (Ld H134 ?_)
    refine On (Vf ?_)
    refine On (Ld H134 ?_)
    refine On (Ve ?_)
    refine Pt ?_
    refine Am ?_
    refine Qn (Rb (Qfn_ret (hR := ?_)))
    exact ⟨congrArg Value.bool (by rw [hres]; exact decide_eq_decide.2 ⟨fun _ => ⟨hA, nullW_ne.1 hB⟩, fun _ => trivial⟩), H134.kept⟩
   have hB := hs138
   refine Of (Of (Of (Of (Of (Pf ?_)))))
   refine Am ?_
   refine Qn (Rb (Qfn_ret (hR := ?_)))
   exact ⟨congrArg Value.bool (by rw [hres]; exact Eq.symm (decide_eq_false fun h => hB (nullW_ne.2 h.2))), H134.kept⟩
  have hA := hs129
  refine Of (Of (Of (Of (Pf ?_))))
  refine Mv ?_
  refine Of (Of (Of (Of (Of (Pf ?_)))))
  refine Am ?_
  refine Qn (Rb (Qfn_ret (hR := ?_)))
  exact ⟨congrArg Value.bool (by rw [hres]; exact Eq.symm (decide_eq_false fun h => hA h.1)), H6.kept⟩
 rw [if_neg hc125] at hres
 refine FW_skip (Qblk_normal (Qseq_normal (Sr (Vf ?_))))
 refine Ld H6 ?_
 refine Vv (Gives.geq rfl rfl) (Mv ?_)
 refine FL_splitP (t := 79) rfl (fun hs163 => ?_) (fun hs163 => ?_)
 ·have hA := hs163
  refine On (Vf ?_)
  refine On (Ld H6 ?_)
  refine On (Vv (Gives.leq rfl rfl) (Pt ?_))
  refine Mv ?_
  refine FL_splitP (t := 84) rfl (fun hs170 => ?_) (fun hs170 => ?_)
  ·have hB := hs170
   refine On (Mv ?_)
   refine Pt ?_
   refine Mv ?_
   refine FL_splitP (t := 87) rfl (fun hs175 => ?_) (fun hs175 => ?_)
   ·have hC := hs175
    refine On (Mv ?_)
    refine Pt ?_
    refine Am ?_
    refine Qn (FW_ret (Qfn_ret (hR := ?_)))
    exact ⟨congrArg Value.bool (by rw [hres]; exact decide_eq_decide.2 ⟨fun h => ⟨hA, hB, h, hC⟩, fun h => h.2.2.1⟩), H6.kept⟩
   have hC := hs175
   refine Of (Pf ?_)
   refine Am ?_
   refine Qn (FW_ret (Qfn_ret (hR := ?_)))
   exact ⟨congrArg Value.bool (by rw [hres]; exact Eq.symm (decide_eq_false fun h => hC h.2.2.2)), H6.kept⟩
  have hB := hs170
  refine Of (Pf ?_)
  refine Mv ?_
  refine Of (Pf ?_)
  refine Am ?_
  refine Qn (FW_ret (Qfn_ret (hR := ?_)))
  exact ⟨congrArg Value.bool (by rw [hres]; exact Eq.symm (decide_eq_false fun h => hB h.2.1)), H6.kept⟩
 have hA := hs163
 refine Of (Of (Of (Pf ?_)))
 refine Mv ?_
 refine Of (Pf ?_)
 refine Mv ?_
 refine Of (Pf ?_)
 refine Am ?_
 refine Qn (FW_ret (Qfn_ret (hR := ?_)))
 exact ⟨congrArg Value.bool (by rw [hres]; exact Eq.symm (decide_eq_false fun h => hA h.1)), H6.kept⟩
end
def takeV (K : Nat) (A : Option Addr) (n c k : Nat) : Value := if k ≤ n then .slice (if c = n - k then A else A.map (·.add ((n - k) * K))) k (c - (n - k)) else .slice none 0 0
def leftV (A : Option Addr) (n c k : Nat) : Value := if k ≤ n then .slice A (n - k) (n - k) else .slice A n c
theorem takesS_le (k : Int) : takesS k ≤ 2 := by unfold takesS; (repeat' split) <;> omega
theorem mayS_kind {x : StepM} (h : mayS x = true) : 1 ≤ x.kind ∧ x.kind ≤ 18 := by
 unfold mayS at h
 repeat' split at h
 all_goals first | omega | (have := of_decide_eq_true h; omega)
theorem takesS_zero' {k : Int} : takesS k = 0 ↔ k < 7 := by
 unfold takesS
 split
 ·simp [*]
 split <;> simp <;> omega
theorem some2_of {α : Type} {k : Int} {st : List α} {d : α} (h7 : 7 ≤ k) (hk : takesS k ≤ st.length) : Some2 k (st.drop (st.length - takesS k)) (st.getD (st.length - takesS k) d) (st.getD (st.length - 1) d) := by
 unfold takesS at hk ⊢
 rw [if_neg (by omega)] at hk ⊢
 by_cases h1 : k = 10 ∨ k = 15 ∨ k = 16 ∨ k = 18
 ·rw [if_pos h1] at hk ⊢
  left
  refine ⟨?_, rfl, h1⟩
  have hlt : st.length - 1 < st.length := by omega
  rw [List.drop_eq_getElem_cons hlt, List.drop_of_length_le (by omega), List.getD_eq_getElem?_getD, List.getElem?_eq_getElem hlt]
  rfl
 rw [if_neg h1] at hk ⊢
 right
 refine ⟨?_, by omega⟩
 have hlt : st.length - 2 < st.length := by omega
 have hlt2 : st.length - 2 + 1 < st.length := by omega
 have e : st.length - 1 = st.length - 2 + 1 := by omega
 rw [e, List.drop_eq_getElem_cons hlt, List.drop_eq_getElem_cons hlt2, List.drop_of_length_le (by omega), List.getD_eq_getElem?_getD, List.getElem?_eq_getElem hlt, List.getD_eq_getElem?_getD, List.getElem?_eq_getElem hlt2]
 rfl
def resS (cols : List ColM) (st : List TypeM) (x : StepM) : Option TypeM :=
 if takesS x.kind = 0 then leafT cols x else madeT x.kind (st.getD (st.length - takesS x.kind) type0) (st.getD (st.length - 1) type0)
theorem stepT_res' {cols : List ColM} {st : List TypeM} {x : StepM} (h1 : mayS x = true) (h2 : takesS x.kind ≤ st.length) : stepT cols st x = (resS cols st x).map fun t => st.take (st.length - takesS x.kind) ++ [t] := by
 unfold stepT resS
 dsimp only
 rw [if_neg (by rw [h1]; simp; omega)]
theorem stepT_no' {cols : List ColM} {st : List TypeM} {x : StepM} (h : mayS x = false ∨ st.length < takesS x.kind) : stepT cols st x = none := by
 unfold stepT
 dsimp only
 rw [if_pos h]
theorem Sep.capD {α : Type} {enc : α → List Value} {k e n c : Nat} {l : List α} {A : Option Addr} {w w₀ : World} {S : Nat → Prop} {rs : List HP} {put : HP → List HP} (H : Sep w₀ S rs w) (hat : At rs (rowD e k enc (.slice A n c) l) put) : c ≤ 9223372036854775807 := by
 obtain ⟨F, hp, _, _⟩ := H.focus hat
 rcases hp.1.2 with ⟨hv, h0⟩ | ⟨g, cap, cur, hv, _, hh, hle, hmax, _⟩
 ·injection hv with _ _ h; omega
 injection hv with _ _ h; unfold maxLen at hmax; omega
theorem row_from {α : Type} {enc : α → List Value} {k : Nat} [hk : EncK enc k] {w : World} {A : Option Addr} {l : List α} {c j : Nat} (h : Rd w A enc k l) (hc : l.length ≤ c) (hc2 : c ≤ 9223372036854775807) (hj : j ≤ l.length) : RowIn w (.slice (if c = l.length - j then A else A.map (·.add ((l.length - j) * k))) j (c - (l.length - j))) enc k (l.drop (l.length - j)) := by
 refine ⟨if c = l.length - j then A else A.map (·.add ((l.length - j) * k)), c - (l.length - j), ?_, ⟨?_, ?_⟩, h.fromC (l.length - j) hc⟩
 ·rw [List.length_drop, show l.length - (l.length - j) = j by omega]
 ·rw [List.length_drop]; omega
 omega
section
variable {w : World}
theorem typesTakes {b E n c k : Nat} {A : Option Addr} {F : Nat → Prop} {f : FuncId} (hp : (blk b [.slice A n c] E).ok F w) (hk : k ≤ 1000000)
    (hyes : k ≤ n → Rets Tryz.prog f [.pointer (some ⟨b, 0, none⟩), I k] w fun v w' => v = .tuple #[.slice (if c = n - k then A else A.map (·.add ((n - k) * 2))) k (c - (n - k)), .bool true] ∧ Turn F (blk b [.slice A (n - k) (n - k)] E) w w')
    (hno : n < k → Rets Tryz.prog f [.pointer (some ⟨b, 0, none⟩), I k] w fun v w' => v = .tuple #[.slice none 0 0, .bool false] ∧ Turn F (blk b [.slice A n c] E) w w') :
    Rets Tryz.prog f [.pointer (some ⟨b, 0, none⟩), I k] w fun v w' => v = .tuple #[takeV 2 A n c k, .bool (decide (k ≤ n))] ∧ Turn F (blk b [leftV A n c k] E) w w' := by
  by_cases h : k ≤ n
  · rw [takeV, leftV, if_pos h, if_pos h, decide_eq_true h]; exact hyes h
  rw [takeV, leftV, if_neg h, if_neg h, decide_eq_false h]; exact hno (by omega)
attribute [local irreducible] mayS mayT leafT madeT
theorem typeE_ok {cols : List ColM} {l : List StepM} {vc vl : Value} (hc : RowIn w vc colCells 7 cols) (hl : RowIn w vl stepCells 3 l) (hx : ∀ x ∈ l, fits x.n) (hT : TabsU w) : Rets Tryz.prog 24 [vc, vl] w fun v w' => v = .tuple #[agg (typeCells (typeS cols l).1), I (typeS cols l).2] ∧ Kept noB w w' := by
  have hcc := hc
  obtain ⟨A, m, rfl, ⟨hm, hm'⟩, hA⟩ := hc
  obtain ⟨C, n, rfl, ⟨hn, hn'⟩, hC⟩ := hl
  have H := Sep.start0 w
  obtain ⟨res, hres⟩ : ∃ res, res = typeS cols l := ⟨_, rfl⟩
  rw [← hres]
  unfold typeS at hres
  refine retsC2 Tryz.func24 rfl rfl rfl rfl ?_
  refine Sr (FL_alloc H (h := fun b4 w2 H2 k1 => ?_))
  refine Am ?_
  refine Qn (FW_seq (Sr (Mv ?_)))
  refine Vs ?_
  refine Vg ?_
  refine Qn (Cp rfl (fun hc7 => ?_) (fun hc7 => ?_))
  · rw [if_pos (by omega)] at hres
    refine Sr (Vv (Gives.build (out := typeCells type0) Fills.nil) (FL_storeAll H2 (h := fun w11 H11 => ?_)))
    refine Am ?_
    refine Qn (Rs (QfnC_ret (h := ?_)))
    exact ⟨_, resC2 H11, by rw [hres]; rfl, H11.kept⟩
  rw [if_neg (by omega)] at hres
  refine Sk (Sr (FL_alloc H2 (h := fun b6 w16 H16 k15 => ?_)))
  refine Qn (FW_seq (Sr (Mv ?_)))
  refine Vs ?_
  refine Mv ?_
  refine Qn (FW_block ?_)
  have H21 := Sep.nilD H16 45 2 typeCells
  refine FW_loop' (fun x : Nat × List TypeM × Value => [(0, .slice A cols.length m), (4, .pointer (some ⟨b4, 0, none⟩)), (6, .pointer (some ⟨b6, 0, none⟩)), (16, .slice C l.length n), (17, I l.length), (18, I x.1)]) (fun x w' => (x.1 ≤ l.length ∧ x.2.1.length ≤ x.1 ∧ runT cols x.2.1 (l.drop x.1) = runT cols [] l) ∧ Sep w noB [rowD 45 2 typeCells x.2.2 x.2.1, blk b6 [x.2.2] 103, blk b4 (typeCells type0) 45] w') (fun x _ => l.length - x.1) (0, [], .slice none 0 0) ⟨rfl, rfl, rfl, rfl, rfl, rfl, trivial⟩ ⟨⟨Nat.zero_le _, Nat.le_refl _, rfl⟩, H21⟩ (fun x τ w21 hI => ?_)
  obtain ⟨i, st, v0⟩ := x
  obtain ⟨⟨hi, hsl, hst⟩, H21⟩ := hI
  dsimp only at hi hsl hst H21
  obtain ⟨B, cb, rfl, hcb, hB⟩ := Sep.formD H21 At0
  try simp only [upds, like, upd_ds, und_ds]
  refine Sr (Vl ?_)
  refine Qn (FW_seq (Cp rfl (fun hc23 => ?_) (fun hc23 => ?_)))
  · have hlt : i < l.length := by omega
    obtain ⟨x, hx'⟩ := get_some hlt
    have hdr : l.drop i = x :: l.drop (i + 1) := by
      rw [List.drop_eq_getElem_cons hlt]; rw [List.getElem?_eq_getElem hlt] at hx'; injection hx' with hx'; rw [hx']
    rw [hdr, runT] at hst
    have hfx := hx x (List.mem_of_getElem? hx')
    have hk2 := takesS_le x.kind
    refine Sk (FW_seq (FW_block (Sr (Vv (Gives.idxR rfl rfl (by assumption) (by omega)) (Vv (Gives.loadE0 rfl H21 (by assumption) (by assumption)) ?_)))))
    refine FL_alloc H21 (h := fun b8 w28 H28 k27 => ?_)
    refine FL_storeAll H28 (h := fun w30 H30 => ?_)
    refine Nx (Vf ?_)
    refine Ld H30 ?_
    refine FL_callQ H30 (many_ok x.kind) (h := fun w34 H34 k33 => ?_)
    obtain ⟨F0, hp0, hS0, hput0⟩ := H34.focus At2
    refine FL_call (typesTakes hp0 (by omega) (fun h => typesTake_ok hp0 h hcb (by omega)) (fun h => typesTakeNo_ok hp0 h (by omega))) rfl rfl (fun v' w36 hv => ?_)
    obtain ⟨rfl, hkk, F1, hq, hs⟩ := hv
    have H36 := hput0 _ F1 _ hkk hq hs
    refine Mv ?_
    refine Vx ?_
    refine Vx ?_
    refine Am ?_
    refine Am ?_
    refine Qn (FW_seq (Sr (Mv ?_)))
    refine Vv (Gives.notP rfl) (Mv ?_)
    refine FL_splitP (t := 31) rfl (fun hs45 => ?_) (fun hs45 => ?_)
    · rw [stepT_no' (.inr (by omega))] at hst
      rw [← hst] at hres
      have hfin : res = (type0, 220) := hres
      refine Of (Of (Of (Pt ?_)))
      refine Qn (FW_cond_true rfl ?_)
      refine Sr (Vv (Gives.build (out := typeCells type0) Fills.nil) (FL_storeAll H36 (h := fun w50 H50 => ?_)))
      refine Am ?_
      refine Qn (Rs (Qblk_ret (Qseq_ret (Qround_ret (Qblk_ret (Qseq_ret (QfnC_ret (h := ?_))))))))
      exact ⟨_, resC2 H50, by rw [hfin]; rfl, H50.kept⟩
    have hkn : takesS x.kind ≤ st.length := by omega
    rw [takeV, if_pos hkn]
    rw [leftV, if_pos hkn] at H36
    refine On (FL_loadAll H36 (h := ?_))
    refine On (FL_callQ H36 (may_ok x hfx (hT.keep H36.kept)) (h := fun w56 H56 k55 => ?_))
    refine On (Vv (Gives.not rfl) (Pf ?_))
    refine Qn (Cd rfl (fun hc59 => ?_) (fun hc59 => ?_))
    · rw [stepT_no' (.inl (by have h := hc59; revert h; cases mayS x <;> simp))] at hst
      rw [← hst] at hres
      have hfin : res = (type0, 220) := hres
      refine Sr (Vv (Gives.build (out := typeCells type0) Fills.nil) (FL_storeAll H56 (h := fun w63 H63 => ?_)))
      refine Am ?_
      refine Qn (Rs (Qblk_ret (Qseq_ret (Qround_ret (Qblk_ret (Qseq_ret (QfnC_ret (h := ?_))))))))
      exact ⟨_, resC2 H63, by rw [hfin]; rfl, H63.kept⟩
    have hmx : mayS x = true := by have h := hc59; revert h; cases mayS x <;> simp
    obtain ⟨hk1, hk18⟩ := mayS_kind hmx
    rw [stepT_res' hmx hkn] at hst
    refine Sk (Sr (FL_alloc H56 (h := fun b11 w68 H68 k67 => ?_)))
    refine Qn (FW_cut (fun tp : TypeM => [(0, .slice A cols.length m), (4, .pointer (some ⟨b4, 0, none⟩)), (6, .pointer (some ⟨b6, 0, none⟩)), (8, .pointer (some ⟨b8, 0, none⟩)), (10, .bool (resS cols st x).isSome), (11, .pointer (some ⟨b11, 0, none⟩)), (16, .slice C l.length n), (17, I l.length), (18, I i)]) (fun tp w' => (∀ y, resS cols st x = some y → tp = y) ∧ Sep w noB [blk b11 (typeCells tp) 45, blk b8 (stepCells x) 60, rowD 45 2 typeCells (.slice B st.length cb) st, blk b6 [.slice B (st.length - takesS x.kind) (st.length - takesS x.kind)] 103, blk b4 (typeCells type0) 45] w') ?_ ?_)
    · refine Sr (Mv ?_)
      refine Vs ?_
      refine Ve ?_
      refine Qn (Cp rfl (fun hc73 => ?_) (fun hc73 => ?_))
      · have hk0 : takesS x.kind = 0 := by omega
        have hrt : resS cols st x = leafT cols x := if_pos hk0
        have hk6 : x.kind ≤ 6 := by have := takesS_zero'.1 hk0; omega
        refine FW_region (Mv ?_)
        refine FL_loadAll H68 (h := ?_)
        refine FL_callQ H68 (own_ok x (hcc.keep H68.kept) hk1 hk6) (h := fun w78 H78 k77 => ?_)
        refine Mv ?_
        refine Vx ?_
        refine Vx ?_
        refine FL_storeAll H78 (h := fun w83 H83 => ?_)
        refine Am ?_
        refine FL_nil ?_
        exact Qcut_normal ((leafT cols x).getD type0) ⟨rfl, rfl, rfl, rfl, by rw [hrt]; rfl, rfl, rfl, rfl, rfl, trivial⟩ ⟨fun y hy => by rw [hrt] at hy; rw [hy]; rfl, H83⟩
      have hk0 : ¬ takesS x.kind = 0 := by omega
      have hrt : resS cols st x = madeT x.kind (st.getD (st.length - takesS x.kind) type0) (st.getD (st.length - 1) type0) := if_neg hk0
      have hk7 : 7 ≤ x.kind := by
        refine Classical.byContradiction fun h => hk0 (takesS_zero'.2 (by omega))
      refine FW_region (Vf ?_)
      refine Ld H68 ?_
      refine Mv ?_
      refine FL_call (typed_ok (row_from (Sep_rdD H68 At2) hcb (Sep.capD H68 At2) hkn) (some2_of (d := type0) hk7 hkn) hk7 hk18) rfl rfl (fun v' w91 hv => ?_)
      obtain ⟨⟨tp, rfl, htp⟩, hkk⟩ := hv
      have H91 := H68.keep hkk
      refine Mv ?_
      refine Vx ?_
      refine Vx ?_
      refine FL_storeAll H91 (h := fun w96 H96 => ?_)
      refine Am ?_
      refine FL_nil ?_
      exact Qcut_normal tp ⟨rfl, rfl, rfl, rfl, by rw [hrt]; rfl, rfl, rfl, rfl, rfl, trivial⟩ ⟨fun y hy => by rw [hrt] at hy; exact htp y hy, H96⟩
    rintro tp τ w100 ⟨htp, H100⟩
    simp only [upds, like, upd_ds]
    refine FW_seq (Sr (Mv ?_))
    refine Vv (Gives.not rfl) (Qn ?_)
    refine Cd rfl (fun hc103 => ?_) (fun hc103 => ?_)
    · have hno : resS cols st x = none := by
        cases h : resS cols st x with
        | none => rfl
        | some y => rw [h] at hc103; cases hc103
      rw [hno] at hst
      rw [← hst] at hres
      have hfin : res = (type0, 220) := hres
      refine Sr (Vv (Gives.build (out := typeCells type0) Fills.nil) (FL_storeAll H100 (h := fun w107 H107 => ?_)))
      refine Am ?_
      refine Qn (Rs (Qblk_ret (Qseq_ret (Qround_ret (Qblk_ret (Qseq_ret (QfnC_ret (h := ?_))))))))
      exact ⟨_, resC2 H107, by rw [hfin]; rfl, H107.kept⟩
    obtain ⟨y, hy⟩ : ∃ y, resS cols st x = some y := by
      cases h : resS cols st x with
      | none => rw [h] at hc103; cases hc103
      | some y => exact ⟨y, rfl⟩
    have hty := htp y hy
    subst hty
    rw [hy] at hst
    refine Sk (FW_region (FL_loadAll H100 (h := ?_)))
    refine FL_buildSlice H100 (xs := [.tmp 56]) (out := [tp].flatMap typeCells) (Elems.many rfl rfl Elems.nil) rfl rfl rfl (fun bs w113 H113 k112 => ?_)
    obtain ⟨F0, hp0, hS0, hput0⟩ := H113.focus At4
    have htl : (st.take (st.length - takesS x.kind)).length = st.length - takesS x.kind := by rw [List.length_take]; omega
    have hRc := (Sep_rdD H113 At3).cut (st.length - takesS x.kind)
    have hn1 : RowIn _ (.slice (some ⟨bs, 0, none⟩) 1 1) typeCells 2 [tp] := ⟨some ⟨bs, 0, none⟩, 1, rfl, ⟨by simp, by omega⟩, Sep.blkRow H113 At0 rfl⟩
    refine FL_call (typesPut_ok (l := st.take (st.length - takesS x.kind)) (by rw [htl]; exact hp0) hRc hn1 (by simp) (by simp; omega)) rfl rfl (fun v' w115 hv => ?_)
    obtain ⟨v2, rfl, _, hkk, F1, hq, hs⟩ := hv
    have H115 := ((hput0 _ F1 _ hkk hq hs).front4).star0
    refine FL_nil (Qblk_normal (Qseq_normal (FW_region (Vv (Gives.addI rfl rfl rfl (by omega)) ?_))))
    refine Mv ?_
    refine FL_nil ?_
    exact Qround_normal (i + 1, st.take (st.length - takesS x.kind) ++ [tp], v2) ⟨rfl, rfl, rfl, rfl, rfl, rfl, trivial⟩ ⟨⟨by dsimp only; omega, by dsimp only; rw [List.length_append, htl]; simp; omega, hst⟩, (H115.front6.front1.front2).firsts (l := [_, _, _])⟩ (by dsimp only; omega)
  have hil : i = l.length := by omega
  rw [hil, List.drop_length, runT] at hst
  rw [← hst] at hres
  refine FW_exit (Qseq_exit (Qround_exit (Qblk_exit (Qseq_normal (FW_seq (Sr (Vf ?_)))))))
  refine Ld H21 ?_
  refine Vs ?_
  refine Vn ?_
  refine Qn (Cp rfl (fun hc124 => ?_) (fun hc124 => ?_))
  · have hfin : res = (type0, 220) := by
      rw [hres]
      match st, hc124 with
      | [], _ => rfl
      | [t], h => exact absurd rfl h
      | t :: u :: r, _ => rfl
    refine Sr (Vv (Gives.build (out := typeCells type0) Fills.nil) (FL_storeAll H21 (h := fun w128 H128 => ?_)))
    refine Am ?_
    refine Qn (Rs (QfnC_ret (h := ?_)))
    exact ⟨_, resC2 H128, by rw [hfin]; rfl, H128.kept⟩
  obtain ⟨t, ht⟩ : ∃ t, st = [t] := List.length_eq_one_iff.1 (by omega)
  have hg0 : st[0]? = some t := by rw [ht]; rfl
  have hfin : res = (t, 0) := by rw [hres, ht]
  refine Sk (Sr (Vf ?_))
  refine Ld H21 ?_
  refine Vv (Gives.idxR (i := 0) rfl rfl hB (by omega)) (Vv (Gives.loadW0 (i := 0) rfl hB hg0) ?_)
  refine FL_storeAll H21 (h := fun w137 H137 => ?_)
  refine Am ?_
  refine Qn (FW_ret (QfnC_ret (h := ?_)))
  exact ⟨_, resC2 H137, by rw [hfin]; rfl, H137.kept⟩
end
section
variable {w : World}
end
section
variable {w : World}
end
section
variable {w : World}
end
end Go.Proofs.YtolaedhdjcnijaaGreatDoor
namespace Go.Proofs.YtolaedhdjcnijaaGreatDoor
open Go Go.Lib Go.Mw
set_option maxRecDepth 4000
def RowFits (r : List CellM) : Prop := ∀ c ∈ r, fits c.n
def Typed (ts : List TypeM) (st : List CellM) : Prop := ts.length = st.length ∧ ∀ (i : Nat) t c, ts[i]? = some t → st[i]? = some c → okC t c ∧ fits c.n
theorem Typed.push {ts : List TypeM} {st : List CellM} (h : Typed ts st) {m : Nat} {t : TypeM} {c : CellM} (hm : m ≤ st.length) (hc : okC t c ∧ fits c.n) : Typed (ts.take m ++ [t]) (st.take m ++ [c]) := by
 obtain ⟨h1, h2⟩ := h
 have e1 : (ts.take m).length = m := by rw [List.length_take]; omega
 have e2 : (st.take m).length = m := by rw [List.length_take]; omega
 refine ⟨by simp [h1], fun i t' c' ht hc' => ?_⟩
 rcases Nat.lt_or_ge i m with hi | hi
 ·rw [List.getElem?_append_left (by omega), List.getElem?_take, if_pos hi] at ht hc'
  exact h2 i t' c' ht hc'
 rw [List.getElem?_append_right (by omega), e1] at ht
 rw [List.getElem?_append_right (by omega), e2] at hc'
 cases hd : i - m with
 | zero =>
  rw [hd] at ht hc'
  simp at ht hc'
  rw [← ht, ← hc']; exact hc
 | succ j => rw [hd] at ht; simp at ht
theorem Typed.nil : Typed [] [] := ⟨rfl, fun i t c h => by simp at h⟩
end Go.Proofs.YtolaedhdjcnijaaGreatDoor
namespace Go.Proofs.YtolaedhdjcnijaaGreatDoor
open Go Go.Mw Go.Lib
set_option maxRecDepth 4000
attribute [local irreducible] checkC
section
variable {w : World}
end
attribute [local irreducible] typeS
section
variable {w : World}
end
end Go.Proofs.YtolaedhdjcnijaaGreatDoor
namespace Go.Proofs.YtolaedhdjcnijaaGreatDoor
open Go Go.Mw Go.Lib
set_option maxRecDepth 4000
attribute [local irreducible] typeS mayS findC
section
variable {w : World}
end
/-! A row that is sorted, then rid of what comes twice. -/
section
variable {w : World}
end
section
variable {w : World}
theorem colsEq_ok {a b : List ColM} {va vb : Value} (ha : RowIn w va colCells 7 a) (hb : RowIn w vb colCells 7 b) : Rets Tryz.prog 31 [va, vb] w fun v' w' => v' = .bool (decide (a = b)) ∧ Kept noB w w' := by
 obtain ⟨A, m, rfl, ⟨hm, hm'⟩, hA⟩ := ha
 obtain ⟨B, n, rfl, ⟨hn, hn'⟩, hB⟩ := hb
 have H := Sep.start0 w
 refine rets2 Tryz.func31 rfl rfl rfl rfl ?_
 refine Sr (Am ?_)
 refine Qn (FW_seq (Sr (Mv ?_)))
 refine Vs ?_
 refine Mv ?_
 refine Vs ?_
 refine Vn ?_
 refine Qn (Cp rfl (fun hc7 => ?_) (fun hc7 => ?_))
 ·have hne := hc7
  refine Sr (Am ?_)
  refine Qn (Rs (Qfn_ret (hR := ?_)))
  exact ⟨congrArg Value.bool (Eq.symm (decide_eq_false fun e => hne (by rw [e]))), H.kept⟩
 have hlen : a.length = b.length := by omega
 refine Sk (FW_seq (Sr (Am ?_)))
 refine Qn (FW_block (FW_loop' (fun i : Nat => [(0, .slice A a.length m), (1, .slice B b.length n), (5, I i)]) (fun i w' => (i ≤ a.length ∧ a.take i = b.take i) ∧ Sep w noB [] w') (fun i _ => a.length - i) 0 ⟨rfl, rfl, rfl, trivial⟩ ⟨⟨Nat.zero_le _, by simp⟩, H⟩ (fun i τ w14 hI => ?_)))
 obtain ⟨⟨hi, hst⟩, H14⟩ := hI
 try simp only [upds, like, upd_ds, und_ds]
 refine FW_seq (Sr (Mv ?_))
 refine Mv ?_
 refine Vs ?_
 refine Vl ?_
 refine Qn (Cp rfl (fun hc19 => ?_) (fun hc19 => ?_))
 ·have hlt : i < a.length := by omega
  obtain ⟨x, hx⟩ := get_some hlt
  obtain ⟨y, hy⟩ := get_some (l := b) (i := i) (by omega)
  refine Sk (FW_seq (FW_block (FW_seq (FW_drawS rfl H14 (h := fun hok21 w23 H23 => ?_)))))
  refine Gm hok21 0 ?_
  refine Gm hok21 1 ?_
  refine Gp hok21 2 rfl rfl (fun _ => (Gives.idxR rfl rfl (by assumption) (by omega))) (Gl hok21 3 rfl rfl (Gives.loadE0 rfl H23 (by assumption) (by assumption)) ?_)
  refine Gm hok21 4 ?_
  refine Gm hok21 5 ?_
  refine Gp hok21 6 rfl rfl (fun _ => (Gives.idxR rfl rfl (by assumption) (by omega))) (Gl hok21 7 rfl rfl (Gives.loadE0 rfl H23 (by assumption) (by assumption)) ?_)
  refine Gp hok21 8 rfl rfl (fun _ => (Gives.neqG (enc := colCells) _ _ rfl rfl)) (FG_end hok21 (by kernel_rfl) ?_)
  refine Qseq_normal (Cp rfl (fun hc29 => ?_) (fun hc29 => ?_))
  ·have hxy := hc29
   refine Sr (Am ?_)
   refine Qn (Rb (Qround_ret (Qblk_ret (Qseq_ret (Qfn_ret (hR := ?_))))))
   exact ⟨congrArg Value.bool (Eq.symm (decide_eq_false fun e => hxy (by rw [e, hy] at hx; injection hx with hx; exact hx.symm))), H23.kept⟩
  have hxy : x = y := Classical.not_not.1 hc29
  have hnx : a.take (i + 1) = b.take (i + 1) := by rw [List.take_add_one, List.take_add_one, hst, hx, hy, hxy]
  refine FW_skip (Qblk_normal (Qseq_normal (FW_region (Mv ?_))))
  refine Vv (Gives.addI rfl rfl rfl (by omega)) (Am ?_)
  refine FL_nil ?_
  exact Qround_normal (i + 1) ⟨rfl, rfl, rfl, trivial⟩ ⟨⟨by omega, hnx⟩, H23⟩ (by omega)
 have hil : i = a.length := by omega
 have hab : a = b := by rw [hil, List.take_length, hlen, List.take_length] at hst; exact hst
 refine FW_exit (Qseq_exit (Qround_exit (Qblk_exit (Qseq_normal (Sr (Am ?_))))))
 refine Qn (FW_ret (Qfn_ret (hR := ?_)))
 exact ⟨congrArg Value.bool (Eq.symm (decide_eq_true hab)), H14.kept⟩
end
end Go.Proofs.YtolaedhdjcnijaaGreatDoor
