/-
 The document's literals, walked: Quote, Unquote.
-/
import Derived.Test.YtolaedhdjcnijaaGreatDoorKx9
set_option linter.unusedVariables false
set_option linter.unusedSimpArgs false
namespace Go.Proofs.YtolaedhdjcnijaaGreatDoor
open Go Go.Mw Go.Lib
set_option maxRecDepth 4000

theorem quoteB_nat (c : UInt8) : quoteB c = if c.toNat = 34 then [92, 34] else if c.toNat = 92 then [92, 92] else if c.toNat = 8 then [92, 98] else if c.toNat = 12 then [92, 102] else if c.toNat = 10 then [92, 110] else if c.toNat = 13 then [92, 114] else if c.toNat = 9 then [92, 116]
    else if c.toNat < 32 then [92, 117, 48, 48, hexB (c.toNat / 16), hexB (c.toNat % 16)] else [c] := by
  have e : ∀ k : UInt8, (c = k) = (c.toNat = k.toNat) := fun k => propext UInt8.toNat_inj.symm
  have e2 : (c < 32) = (c.toNat < 32) := propext UInt8.lt_iff_toNat_lt
  unfold quoteB
  simp only [e, e2]
  rfl
theorem quoteB_two {c : UInt8} (h : c.toNat = 34 ∨ c.toNat = 92) : quoteB c = [92, c] := by
 rcases h with h | h
 ·have : c = 34 := UInt8.toNat_inj.1 h
  subst this; rfl
 have : c = 92 := UInt8.toNat_inj.1 h
 subst this; rfl
theorem len_quoteB (c : UInt8) : (quoteB c).length ≤ 6 := by
 unfold quoteB
 repeat' split
 all_goals simp
theorem hexB_at {n : Nat} (h : n < 16) : digS.getD n 0 = hexB n := by
 have key : ∀ i : Fin 16, digS.getD i.val 0 = hexB i.val := by decide
 exact key ⟨n, h⟩
def outQ (l : List UInt8) (i : Nat) : List UInt8 := 34 :: (l.take i).flatMap quoteB
theorem outQ_len (l : List UInt8) (i : Nat) : (outQ l i).length ≤ 6 * i + 1 := by
 have h := len_flat len_quoteB (l.take i)
 have h2 : (l.take i).length ≤ i := by rw [List.length_take]; omega
 unfold outQ
 simp only [List.length_cons]
 omega
theorem outQ_succ {l : List UInt8} {i : Nat} (h : i < l.length) : outQ l (i + 1) = outQ l i ++ quoteB (l.getD i 0) := by
 unfold outQ
 rw [List.take_add_one, List.getElem?_eq_getElem h, List.flatMap_append]
 simp [List.getD_eq_getElem?_getD, List.getElem?_eq_getElem h]
section
variable {w : World} {l : List UInt8}
def quoteP (l : List UInt8) : List UInt8 × Int := if validD l = true then (quoteL l, 0) else ([], 40)
theorem quote_ok4 (l : List UInt8) (hl : l.length ≤ 1000000) : Rets Tryz.prog 133 [str l] w fun v w' => v = .tuple #[str (quoteP l).1, I (quoteP l).2] ∧ Kept noB w w' := by
 have H := Sep.start0 w
 refine rets1 Tryz.func133 rfl rfl rfl rfl ?_
 refine Sr (Am ?_)
 refine Am ?_
 refine Qn (FW_seq (Sr (Mv ?_)))
 refine FL_callQ H (valid_ok4 l (by omega)) (h := fun w5 H5 _ => ?_)
 refine Vv (Gives.not rfl) (Qn ?_)
 refine Cd rfl (fun hc7 => ?_) (fun hc7 => ?_)
 ·have hq : quoteP l = ([], 40) := if_neg (by simpa using hc7)
  refine Sr (Am ?_)
  refine Am ?_
  refine Qn (Rs (Qfn_ret (hR := ?_)))
  exact ⟨by rw [hq]; rfl, H5.kept⟩
 have hv : validD l = true := by simpa using hc7
 refine Sk (Sr (FL_buildSlice H5 (xs := [_]) (out := [34].map B) (Elems.one rfl rfl Elems.nil) rfl rfl rfl (fun b w14 H14 _ => ?_)))
 refine Am ?_
 refine Qn (FW_seq (Sr (Am ?_)))
 refine Qn (FW_block ?_)
 have H18 := Sep.asBytes H14 At0 (by decide)
 refine FW_loop' (fun x : Nat × Value => [(0, str l), (4, x.2), (5, I x.1)]) (fun x w' => x.1 ≤ l.length ∧ Sep w noB [bytesH 5 x.2 (outQ l x.1)] w') (fun x _ => l.length - x.1) (0, _) ⟨rfl, rfl, rfl, trivial⟩ ⟨Nat.zero_le _, H18⟩ (fun x τ w18 hI => ?_)
 obtain ⟨i, v1⟩ := x
 obtain ⟨hi, H18⟩ := hI
 dsimp only at hi H18
 try simp only [upds, like, upd_ds, und_ds]
 refine FW_seq (Sr (Mv ?_))
 refine Mv ?_
 refine Vt ?_
 refine Vl ?_
 refine Qn (Cp rfl (fun hc23 => ?_) (fun hc23 => ?_))
 ·have hlt : i < l.length := by omega
  obtain ⟨c, hc⟩ : ∃ c, c = l.getD i 0 := ⟨_, rfl⟩
  have hsu := outQ_succ hlt
  have hol := outQ_len l i
  rw [← hc] at hsu
  have hcl := c.toNat_lt
  refine Sk (FW_cut (fun v : Value => [(0, str l), (4, v), (5, I i)]) (fun v w' => Sep w noB [bytesH 5 v (outQ l i ++ quoteB c)] w') ?_ ?_)
  ·refine FW_block (Sr (Mv ?_))
   refine Mv ?_
   refine Vv (Gives.idxD rfl rfl hlt) ?_
   rw [← hc]
   refine Am ?_
   refine Qn (FW_block (Sr (Mv ?_)))
   refine Ve ?_
   refine Mv ?_
   refine FL_splitP (t := 27) rfl (fun hs33 => ?_) (fun hs33 => ?_)
   ·have hq : quoteB c = [92, c] := quoteB_two (by omega)
    refine Of (Of (Pt ?_))
    refine Am ?_
    refine Qn (FW_cond_true rfl ?_)
    refine FW_region (Mv ?_)
    refine Mv ?_
    refine FL_buildSlice H18 (xs := [_, .tmp 32]) (out := [92, c].map B) (Elems.one rfl rfl (Elems.one rfl rfl Elems.nil)) rfl rfl rfl (fun b w40 H40 _ => ?_)
    refine FL_appendB H40 (news := [92, c]) At0 (by simp; omega) (h := fun v2 w42 H42 => ?_)
    refine Am ?_
    refine FL_nil (Qblk_normal (Qblk_normal ?_))
    exact Qcut_normal _ ⟨rfl, rfl, rfl, trivial⟩ (by rw [hq]; exact H42)
   refine On (Mv ?_)
   refine On (Ve ?_)
   refine Pf ?_
   refine Am ?_
   refine Qn (Cp rfl (fun hc49 => ?_) (fun hc49 => ?_))
   ·have hq : quoteB c = [92, c] := quoteB_two (by omega)
    refine FW_region (Mv ?_)
    refine Mv ?_
    refine FL_buildSlice H18 (xs := [_, .tmp 32]) (out := [92, c].map B) (Elems.one rfl rfl (Elems.one rfl rfl Elems.nil)) rfl rfl rfl (fun b w54 H54 _ => ?_)
    refine FL_appendB H54 (news := [92, c]) At0 (by simp; omega) (h := fun v2 w56 H56 => ?_)
    refine Am ?_
    refine FL_nil (Qblk_normal (Qblk_normal ?_))
    exact Qcut_normal _ ⟨rfl, rfl, rfl, trivial⟩ (by rw [hq]; exact H56)
   refine Sr (Mv ?_)
   refine Ve ?_
   refine Am ?_
   refine Qn (Cp rfl (fun hc62 => ?_) (fun hc62 => ?_))
   ·have hq : quoteB c = [92, 98] := by rw [quoteB_nat, if_neg (by omega), if_neg (by omega), if_pos (by omega)]
    refine FW_region (Mv ?_)
    refine FL_buildSlice H18 (xs := [_, _]) (out := [92, 98].map B) (Elems.one rfl rfl (Elems.one rfl rfl Elems.nil)) rfl rfl rfl (fun b w66 H66 _ => ?_)
    refine FL_appendB H66 (news := [92, 98]) At0 (by simp; omega) (h := fun v2 w68 H68 => ?_)
    refine Am ?_
    refine FL_nil (Qblk_normal (Qblk_normal ?_))
    exact Qcut_normal _ ⟨rfl, rfl, rfl, trivial⟩ (by rw [hq]; exact H68)
   refine Sr (Mv ?_)
   refine Ve ?_
   refine Am ?_
   refine Qn (Cp rfl (fun hc74 => ?_) (fun hc74 => ?_))
   ·have hq : quoteB c = [92, 102] := by rw [quoteB_nat, if_neg (by omega), if_neg (by omega), if_neg (by omega), if_pos (by omega)]
    refine FW_region (Mv ?_)
    refine FL_buildSlice H18 (xs := [_, _]) (out := [92, 102].map B) (Elems.one rfl rfl (Elems.one rfl rfl Elems.nil)) rfl rfl rfl (fun b w78 H78 _ => ?_)
    refine FL_appendB H78 (news := [92, 102]) At0 (by simp; omega) (h := fun v2 w80 H80 => ?_)
    refine Am ?_
    refine FL_nil (Qblk_normal (Qblk_normal ?_))
    exact Qcut_normal _ ⟨rfl, rfl, rfl, trivial⟩ (by rw [hq]; exact H80)
   refine Sr (Mv ?_)
   refine Ve ?_
   refine Am ?_
   refine Qn (Cp rfl (fun hc86 => ?_) (fun hc86 => ?_))
   ·have hq : quoteB c = [92, 110] := by rw [quoteB_nat, if_neg (by omega), if_neg (by omega), if_neg (by omega), if_neg (by omega), if_pos (by omega)]
    refine FW_region (Mv ?_)
    refine FL_buildSlice H18 (xs := [_, _]) (out := [92, 110].map B) (Elems.one rfl rfl (Elems.one rfl rfl Elems.nil)) rfl rfl rfl (fun b w90 H90 _ => ?_)
    refine FL_appendB H90 (news := [92, 110]) At0 (by simp; omega) (h := fun v2 w92 H92 => ?_)
    refine Am ?_
    refine FL_nil (Qblk_normal (Qblk_normal ?_))
    exact Qcut_normal _ ⟨rfl, rfl, rfl, trivial⟩ (by rw [hq]; exact H92)
   refine Sr (Mv ?_)
   refine Ve ?_
   refine Am ?_
   refine Qn (Cp rfl (fun hc98 => ?_) (fun hc98 => ?_))
   ·have hq : quoteB c = [92, 114] := by rw [quoteB_nat, if_neg (by omega), if_neg (by omega), if_neg (by omega), if_neg (by omega), if_neg (by omega), if_pos (by omega)]
    refine FW_region (Mv ?_)
    refine FL_buildSlice H18 (xs := [_, _]) (out := [92, 114].map B) (Elems.one rfl rfl (Elems.one rfl rfl Elems.nil)) rfl rfl rfl (fun b w102 H102 _ => ?_)
    refine FL_appendB H102 (news := [92, 114]) At0 (by simp; omega) (h := fun v2 w104 H104 => ?_)
    refine Am ?_
    refine FL_nil (Qblk_normal (Qblk_normal ?_))
    exact Qcut_normal _ ⟨rfl, rfl, rfl, trivial⟩ (by rw [hq]; exact H104)
   refine Sr (Mv ?_)
   refine Ve ?_
   refine Am ?_
   refine Qn (Cp rfl (fun hc110 => ?_) (fun hc110 => ?_))
   ·have hq : quoteB c = [92, 116] := by rw [quoteB_nat, if_neg (by omega), if_neg (by omega), if_neg (by omega), if_neg (by omega), if_neg (by omega), if_neg (by omega), if_pos (by omega)]
    refine FW_region (Mv ?_)
    refine FL_buildSlice H18 (xs := [_, _]) (out := [92, 116].map B) (Elems.one rfl rfl (Elems.one rfl rfl Elems.nil)) rfl rfl rfl (fun b w114 H114 _ => ?_)
    refine FL_appendB H114 (news := [92, 116]) At0 (by simp; omega) (h := fun v2 w116 H116 => ?_)
    refine Am ?_
    refine FL_nil (Qblk_normal (Qblk_normal ?_))
    exact Qcut_normal _ ⟨rfl, rfl, rfl, trivial⟩ (by rw [hq]; exact H116)
   refine Sr (Mv ?_)
   refine Vl ?_
   refine Am ?_
   refine Qn (Cp rfl (fun hc122 => ?_) (fun hc122 => ?_))
   ·have hq : quoteB c = [92, 117, 48, 48, digS.getD (c.toNat / 16) 0, digS.getD (c.toNat % 16) 0] := by rw [quoteB_nat, if_neg (by omega), if_neg (by omega), if_neg (by omega), if_neg (by omega), if_neg (by omega), if_neg (by omega), if_neg (by omega), if_pos (by omega), hexB_at (by omega), hexB_at (by omega)]
    refine FW_drawS rfl H18 (h := fun hok124 w126 H126 => ?_)
    refine Gm hok124 0 ?_
    refine Gm hok124 1 ?_
    refine Gp hok124 2 rfl rfl (fun _ => (Gives.quo8 (b := 16) rfl rfl (by omega) (by omega))) (Gp hok124 3 rfl rfl (fun _ => (Gives.idxD (l := digS) rfl rfl (show c.toNat / 16 < 16 by omega))) ?_)
    refine Gm hok124 4 ?_
    refine Gp hok124 5 rfl rfl (fun _ => (Gives.remN (b := 16) rfl rfl (by omega))) (Gp hok124 6 rfl rfl (fun _ => (Gives.idxD (l := digS) rfl rfl (show c.toNat % 16 < 16 by omega))) ?_)
    refine FGbuildSlice hok124 7 [(0, true)] H126 (xs := [_, _, _, _, .tmp 71, .tmp 74]) (out := [92, 117, 48, 48, digS.getD (c.toNat / 16) 0, digS.getD (c.toNat % 16) 0].map B) (Elems.one rfl rfl (Elems.one rfl rfl (Elems.one rfl rfl (Elems.one rfl rfl (Elems.one rfl rfl (Elems.one rfl rfl Elems.nil)))))) (h := fun b w132 H132 => ⟨Stab_pure (Stab_nil), ?_⟩)
    refine FGappendB hok124 8 [] H132 (news := [92, 117, 48, 48, digS.getD (c.toNat / 16) 0, digS.getD (c.toNat % 16) 0]) At0 (by simp; omega) (h := fun v2 w134 H134 => ⟨Stab_nil, ?_⟩)
    refine FGset hok124 9 [] (h := ⟨Stab_nil, ?_⟩)
    refine FG_end hok124 (by kernel_rfl) ?_
    refine Qblk_normal (Qblk_normal ?_)
    exact Qcut_normal _ ⟨rfl, rfl, rfl, trivial⟩ (by rw [hq]; exact H134)
   have hq : quoteB c = [c] := by rw [quoteB_nat, if_neg (by omega), if_neg (by omega), if_neg (by omega), if_neg (by omega), if_neg (by omega), if_neg (by omega), if_neg (by omega), if_neg (by omega)]
   refine FW_region (Mv ?_)
   refine Mv ?_
   refine FL_buildSlice H18 (xs := [.tmp 21]) (out := [c].map B) (Elems.one rfl rfl Elems.nil) rfl rfl rfl (fun b w141 H141 _ => ?_)
   refine FL_appendB H141 (news := [c]) At0 (by simp; omega) (h := fun v2 w143 H143 => ?_)
   refine Am ?_
   refine FL_nil (Qblk_normal (Qblk_normal ?_))
   exact Qcut_normal _ ⟨rfl, rfl, rfl, trivial⟩ (by rw [hq]; exact H143)
  intro v3 τ w147 H147
  simp only [upds, like, upd_ds]
  refine FW_region (Mv ?_)
  refine Vv (Gives.addI rfl rfl rfl (by omega)) (Am ?_)
  refine FL_nil ?_
  exact Qround_normal (i + 1, v3) ⟨rfl, rfl, rfl, trivial⟩ ⟨by dsimp only; omega, by dsimp only; rw [hsu]; exact H147⟩ (by dsimp only; omega)
 have hil : i = l.length := by omega
 refine FW_exit (Qseq_exit (Qround_exit (Qblk_exit (Qseq_normal (Sr (Mv ?_))))))
 refine FL_buildSlice H18 (xs := [_]) (out := [34].map B) (Elems.one rfl rfl Elems.nil) rfl rfl rfl (fun b2 w155 H155 _ => ?_)
 have hol := outQ_len l i
 refine FL_appendB H155 (news := [34]) At0 (by simp; omega) (h := fun v2 w157 H157 => ?_)
 refine Vv (Gives.bytesO H157 At0 rfl) ?_
 have hfin : outQ l i ++ [34] = quoteL l := by
  rw [hil]; unfold outQ quoteL; rw [List.take_length]; rfl
 rw [hfin]
 have hq : quoteP l = (quoteL l, 0) := if_pos hv
 refine Am ?_
 refine Am ?_
 refine Qn (FW_ret (Qfn_ret (hR := ?_)))
 exact ⟨by rw [hq]; rfl, H157.kept⟩
end

theorem digitL_lt {c : UInt8} {d : Nat} (e : digitL c = some d) : d < 16 := by
 have := c.toNat_lt
 unfold digitL at e
 repeat' split at e
 all_goals first | (injection e with e; omega) | cases e
theorem half_val {s : List UInt8} {second : Bool} (h : (halfL s second).2 = 0) : (halfL s second).1 ≤ 65535 ∧ (second = true ↔ (56320 ≤ (halfL s second).1 ∧ (halfL s second).1 ≤ 57343)) := by
 unfold halfL at h ⊢
 cases h0 : s[0]? with
 | none => simp [h0] at h
 | some c0 => cases d0 : digitL c0 with
  | none => simp [h0, d0] at h
  | some a => cases h1 : s[1]? with
   | none => cases second <;> simp [h0, d0, h1] at h <;> (split at h <;> simp at h)
   | some c1 => cases d1 : digitL c1 with
    | none => cases second <;> simp [h0, d0, h1, d1] at h <;> (split at h <;> simp at h)
    | some b => cases h2 : s[2]? with
     | none => cases second <;> simp [h0, d0, h1, d1, h2] at h <;> (repeat' split at h) <;> simp at h
     | some c2 => cases d2 : digitL c2 with
      | none => cases second <;> simp [h0, d0, h1, d1, h2, d2] at h <;> (repeat' split at h) <;> simp at h
      | some c => cases h3 : s[3]? with
       | none => cases second <;> simp [h0, d0, h1, d1, h2, d2, h3] at h <;> (repeat' split at h) <;> simp at h
       | some c3 => cases d3 : digitL c3 with
        | none => cases second <;> simp [h0, d0, h1, d1, h2, d2, h3, d3] at h <;> (repeat' split at h) <;> simp at h
        | some d =>
         have k0 := digitL_lt d0
         have k1 := digitL_lt d1
         have k2 := digitL_lt d2
         have k3 := digitL_lt d3
         cases second
         ·simp only [h0, d0, h1, d1, h2, d2, h3, d3] at h ⊢
          rw [if_neg (by simp)] at h ⊢
          split at h
          ·simp at h
          rename_i hs
          rw [if_neg hs]
          simp at hs ⊢
          omega
         simp only [h0, d0, h1, d1, h2, d2, h3, d3] at h ⊢
         split at h
         ·simp at h
         rename_i hs0
         rw [if_neg hs0]
         split at h
         ·simp at h
         rename_i hs
         rw [if_neg hs]
         simp at hs hs0 ⊢
         omega
def shS : List UInt8 := [34, 92, 47, 98, 102, 110, 114, 116]
def shV : List UInt8 := [34, 92, 47, 8, 12, 10, 13, 9]
theorem short_at {c : UInt8} {i : Nat} (h : i < 8) (hc : c.toNat = (shS.getD i 0).toNat) : shortL c = some (shV.getD i 0) ∧ (shV.take (i + 1)).drop i = [shV.getD i 0] := by
 have key : ∀ i : Fin 8, shortL (shS.getD i.val 0) = some (shV.getD i.val 0) ∧ (shV.take (i.val + 1)).drop i.val = [shV.getD i.val 0] := by decide
 rw [UInt8.toNat_inj.1 hc]; exact key ⟨i, h⟩
theorem short_no {c : UInt8} (h : ∀ i, i < 8 → c.toNat ≠ (shS.getD i 0).toNat) : shortL c = none := by
 have e : ∀ k : UInt8, (c = k) = (c.toNat = k.toNat) := fun k => propext UInt8.toNat_inj.symm
 have k0 := h 0 (by omega); have k1 := h 1 (by omega); have k2 := h 2 (by omega); have k3 := h 3 (by omega); have k4 := h 4 (by omega); have k5 := h 5 (by omega); have k6 := h 6 (by omega); have k7 := h 7 (by omega)
 simp [shS] at k0 k1 k2 k3 k4 k5 k6 k7
 unfold shortL
 simp only [e]
 simp [k0, k1, k2, k3, k4, k5, k6, k7]
theorem putL_ok {n : Int} (h : ¬ (n < 0 ∨ 1114111 < n ∨ (55296 ≤ n ∧ n ≤ 57343))) : (putL n).getD [] = encodeRune n := by
 unfold putL
 rw [if_neg h]; rfl
section
variable {w : World} {l : List UInt8}
theorem escape_ok4 (l : List UInt8) (hl : l.length ≤ 9223372036854775807) : Rets Tryz.prog 245 [str l] w fun v w' => v = .tuple #[str (escL l).1, I (escL l).2.1, I (escL l).2.2] ∧ Kept noB w w' := by
  have H := Sep.start0 w
  refine rets1 Tryz.func245 rfl rfl rfl rfl ?_
  refine Sr (Am ?_)
  refine Am ?_
  refine Am ?_
  refine Qn (FW_seq (Sr (Mv ?_)))
  refine Vt ?_
  refine Vl ?_
  refine Qn (Cp rfl (fun hc7 => ?_) (fun hc7 => ?_))
  · have hres : escL l = ([], 0, 3) := by unfold escL; rw [List.getElem?_eq_none (by omega)]
    refine Sr (Am ?_)
    refine Am ?_
    refine Am ?_
    refine Qn (Rs (Qfn_ret (hR := ?_)))
    exact ⟨by rw [hres]; rfl, H.kept⟩
  obtain ⟨c, hc⟩ : ∃ c, c = l.getD 1 0 := ⟨_, rfl⟩
  have hg : l[1]? = some c := by rw [hc, List.getD_eq_getElem?_getD, List.getElem?_eq_getElem (by omega)]; rfl
  refine Sk (FW_seq (Sr (Am ?_)))
  refine Qn (FW_block (FW_loop' (fun i : Nat => [(0, str l), (5, I i)]) (fun i w' => (i ≤ 8 ∧ ∀ j, j < i → c.toNat ≠ (shS.getD j 0).toNat) ∧ Sep w noB [] w') (fun i _ => 8 - i) 0 ⟨rfl, rfl, trivial⟩ ⟨⟨by omega, fun j hj => by omega⟩, H⟩ (fun i τ w16 hI => ?_)))
  obtain ⟨⟨hi, hno⟩, H16⟩ := hI
  try simp only [upds, like, upd_ds, und_ds]
  refine FW_seq (Sr (Mv ?_))
  refine Vl ?_
  refine Qn (Cp rfl (fun hc19 => ?_) (fun hc19 => ?_))
  · have hlt : i < 8 := by omega
    refine Sk (FW_seq (FW_block (FW_seq (FW_drawS rfl H16 (h := fun hok21 w23 H23 => ?_)))))
    refine Gm hok21 0 ?_
    refine Gp hok21 1 rfl rfl (fun _ => (Gives.idxD (i := 1) rfl rfl (by omega))) ?_
    rw [← hc]
    refine Gm hok21 2 ?_
    refine Gp hok21 3 rfl rfl (fun _ => (Gives.idxD (l := shS) rfl rfl hlt)) (Gp hok21 4 rfl rfl (fun _ => (Gives.eql rfl rfl)) ?_)
    refine FG_end hok21 (by kernel_rfl) ?_
    refine Qseq_normal (Cp rfl (fun hc27 => ?_) (fun hc27 => ?_))
    · obtain ⟨hs1, hs2⟩ := short_at (c := c) hlt (by omega)
      have hres : escL l = ([shV.getD i 0], 2, 0) := by unfold escL; rw [hg]; simp only [hs1]
      refine Sr (Mv ?_)
      refine Mv ?_
      refine Vv (Gives.addI rfl rfl rfl (by omega)) (Vv (Gives.sliceBothT (l := shV) (m := i + 1) rfl rfl rfl (by omega) (show i + 1 ≤ 8 by omega)) ?_)
      rw [hs2]
      refine Am ?_
      refine Am ?_
      refine Am ?_
      refine Qn (Rb (Qround_ret (Qblk_ret (Qseq_ret (Qfn_ret (hR := ?_))))))
      exact ⟨by rw [hres]; rfl, H23.kept⟩
    refine FW_skip (Qblk_normal (Qseq_normal (FW_region (Mv ?_))))
    refine Vv (Gives.addI rfl rfl rfl (by omega)) (Am ?_)
    refine FL_nil ?_
    exact Qround_normal (i + 1) ⟨rfl, rfl, trivial⟩ ⟨⟨by omega, fun j hj => by
    rcases Nat.lt_or_ge j i with h | h
    · exact hno j h
    have : j = i := by omega
    subst this; omega⟩, H23⟩ (by omega)
  have hsn : shortL c = none := short_no fun j hj => hno j (by omega)
  refine FW_exit (Qseq_exit (Qround_exit (Qblk_exit (Qseq_normal (FW_seq (Sr (Mv ?_)))))))
  refine Vv (Gives.idxD (i := 1) rfl rfl (by omega)) ?_
  rw [← hc]
  refine Vn ?_
  refine Qn (Cp rfl (fun hc45 => ?_) (fun hc45 => ?_))
  · have hres : escL l = ([], 0, 41) := by unfold escL; rw [hg]; simp only [hsn]; rw [if_pos (fun e => by rw [e] at hc45; exact hc45 rfl)]
    refine Sr (Am ?_)
    refine Am ?_
    refine Am ?_
    refine Qn (Rs (Qfn_ret (hR := ?_)))
    exact ⟨by rw [hres]; rfl, H16.kept⟩
  have hu : c = 117 := UInt8.toNat_inj.1 (by show c.toNat = 117; omega)
  obtain ⟨h, hh⟩ : ∃ h, h = halfL (l.drop 2) false := ⟨_, rfl⟩
  have hes : escL l = if h.2 ≠ 0 then ([], 0, h.2) else if h.1 < 55296 ∨ 56319 < h.1 then (encodeRune h.1, 6, 0) else escT l h.1 := by
    unfold escL; rw [hg]; simp only [hsn]; rw [if_neg (by simpa using hu), ← hh]
  refine Sk (Sr (Mv ?_))
  refine Vv (Gives.sliceFromT (i := 2) rfl rfl (by omega)) (FL_callS (half_ok4 (l.drop 2) false (by rw [List.length_drop]; omega)) (h := ?_))
  rw [← hh]
  refine Mv ?_
  refine Vx ?_
  refine Vx ?_
  refine Am ?_
  refine Am ?_
  refine Qn (FW_seq (Sr (Mv ?_)))
  refine Vn ?_
  refine Qn (Cp rfl (fun hc62 => ?_) (fun hc62 => ?_))
  · have hres : escL l = ([], 0, h.2) := by rw [hes, if_pos hc62]
    refine Sr (Mv ?_)
    refine Am ?_
    refine Am ?_
    refine Am ?_
    refine Qn (Rs (Qfn_ret (hR := ?_)))
    exact ⟨by rw [hres]; rfl, H16.kept⟩
  have h20 : h.2 = 0 := by simpa using hc62
  rw [if_neg (by simpa using h20)] at hes
  have hv := half_val (s := l.drop 2) (second := false) (by rw [← hh]; exact h20)
  rw [← hh] at hv
  simp at hv
  refine Sk (FW_seq (Sr (Mv ?_)))
  refine Vl ?_
  refine Mv ?_
  refine FL_splitP (t := 45) rfl (fun hs73 => ?_) (fun hs73 => ?_)
  · have hres : escL l = (encodeRune h.1, 6, 0) := by rw [hes, if_pos (by omega)]
    have hpe : (putL (h.1 : Int)).getD [] = encodeRune h.1 := putL_ok (by omega)
    refine Of (Of (Pt ?_))
    refine Qn (FW_cond_true rfl ?_)
    refine Sr (Mv ?_)
    refine Vv (Gives.convI32 rfl (by omega)) (FL_callQ H16 (put_ok h.1 (by omega)) (h := fun w79 H79 _ => ?_))
    rw [hpe]
    refine Mv ?_
    refine Vx ?_
    refine Vx ?_
    refine Am ?_
    refine Am ?_
    refine Nx (Mv ?_)
    refine Am ?_
    refine Am ?_
    refine Am ?_
    refine Qn (Rs (Qfn_ret (hR := ?_)))
    exact ⟨by rw [hres]; rfl, H79.kept⟩
  refine On (Mv ?_)
  refine On (Vg ?_)
  refine Pf ?_
  refine Qn (Cp rfl (fun hc93 => ?_) (fun hc93 => ?_))
  · have hres : escL l = (encodeRune h.1, 6, 0) := by rw [hes, if_pos (by omega)]
    have hpe : (putL (h.1 : Int)).getD [] = encodeRune h.1 := putL_ok (by omega)
    refine Sr (Mv ?_)
    refine Vv (Gives.convI32 rfl (by omega)) (FL_callQ H16 (put_ok h.1 (by omega)) (h := fun w98 H98 _ => ?_))
    rw [hpe]
    refine Mv ?_
    refine Vx ?_
    refine Vx ?_
    refine Am ?_
    refine Am ?_
    refine Nx (Mv ?_)
    refine Am ?_
    refine Am ?_
    refine Am ?_
    refine Qn (Rs (Qfn_ret (hR := ?_)))
    exact ⟨by rw [hres]; rfl, H98.kept⟩
  have hsu : 55296 ≤ h.1 ∧ h.1 ≤ 56319 := by omega
  rw [if_neg (by omega)] at hes
  refine Sk (FW_seq (Sr (Am ?_)))
  refine Qn (FW_block (FW_loop' (fun i : Nat => [(0, str l), (6, I h.1), (10, I i)]) (fun i w' => (6 ≤ i ∧ i ≤ 8 ∧ (7 ≤ i → l[6]? = some 92) ∧ (8 ≤ i → l[7]? = some 117)) ∧ Sep w noB [] w') (fun i _ => 8 - i) 6 ⟨rfl, rfl, rfl, trivial⟩ ⟨⟨by omega, by omega, fun h => by omega, fun h => by omega⟩, H16⟩ (fun i τ w112 hI => ?_)))
  obtain ⟨⟨hi6, hi8, hg6, hg7⟩, H112⟩ := hI
  try simp only [upds, like, upd_ds]
  refine FW_seq (Sr (Mv ?_))
  refine Vl ?_
  refine Qn (Cp rfl (fun hc115 => ?_) (fun hc115 => ?_))
  · have hlt : i = 6 ∨ i = 7 := by omega
    refine Sk (FW_seq (FW_block (FW_seq (Sr (Mv ?_)))))
    refine Mv ?_
    refine Vt ?_
    refine Vv (Gives.geq rfl rfl) (Qn ?_)
    refine Cp rfl (fun hc121 => ?_) (fun hc121 => ?_)
    · have hres : escL l = ([], 0, 3) := by
        rw [hes]; unfold escT
        rcases hlt with rfl | rfl
        · rw [List.getElem?_eq_none (by omega)]
        rw [hg6 (by omega)]; simp; rw [List.getElem?_eq_none (by omega)]
      refine Sr (Am ?_)
      refine Am ?_
      refine Am ?_
      refine Qn (Rs (Qblk_ret (Qseq_ret (Qround_ret (Qblk_ret (Qseq_ret (Qfn_ret (hR := ?_))))))))
      exact ⟨by rw [hres]; rfl, H112.kept⟩
    have hil : i < l.length := by omega
    have hgi : l[i]? = some (l.getD i 0) := by rw [List.getD_eq_getElem?_getD, List.getElem?_eq_getElem hil]; rfl
    refine Sk (FW_seq (FW_drawS rfl H112 (h := fun hok128 w130 H130 => ?_)))
    refine Gm hok128 0 ?_
    refine Gm hok128 1 ?_
    refine Gp hok128 2 rfl rfl (fun _ => (Gives.idxD rfl rfl (by omega))) (Gm hok128 3 ?_)
    refine Gp hok128 4 rfl rfl (fun _ => (Gives.subI (c := ((i - 6 : Nat) : Int)) rfl rfl (by omega) (by omega))) (Gp hok128 5 rfl rfl (fun _ => (Gives.idxD (l := [92, 117]) rfl rfl (show i - 6 < 2 by omega))) ?_)
    refine Gp hok128 6 rfl rfl (fun _ => (Gives.neq rfl rfl)) (FG_end hok128 (by kernel_rfl) ?_)
    refine Qseq_normal (Cp rfl (fun hc135 => ?_) (fun hc135 => ?_))
    · have hres : escL l = ([], 0, 41) := by
        rw [hes]; unfold escT
        rcases hlt with rfl | rfl
        · rw [hgi]; dsimp only
          rw [if_pos (fun e => by rw [e] at hc135; exact hc135 rfl)]
        rw [hg6 (by omega)]; dsimp only
        rw [if_neg (by simp), hgi]; dsimp only
        rw [if_pos (fun e => by rw [e] at hc135; exact hc135 rfl)]
      refine Sr (Am ?_)
      refine Am ?_
      refine Am ?_
      refine Qn (Rb (Qround_ret (Qblk_ret (Qseq_ret (Qfn_ret (hR := ?_))))))
      exact ⟨by rw [hres]; rfl, H130.kept⟩
    have hci : (l.getD i 0).toNat = ([92, 117].getD (i - 6) 0 : UInt8).toNat := by omega
    have hnx : (7 ≤ i + 1 → l[6]? = some 92) ∧ (8 ≤ i + 1 → l[7]? = some 117) := by
      rcases hlt with rfl | rfl
      · exact ⟨fun _ => by rw [hgi]; exact congrArg some (UInt8.toNat_inj.1 hci), fun h => by omega⟩
      exact ⟨fun _ => hg6 (by omega), fun _ => by rw [hgi]; exact congrArg some (UInt8.toNat_inj.1 hci)⟩
    refine FW_skip (Qblk_normal (Qseq_normal (FW_region (Mv ?_))))
    refine Vv (Gives.addI rfl rfl rfl (by omega)) (Am ?_)
    refine FL_nil ?_
    exact Qround_normal (i + 1) ⟨rfl, rfl, rfl, trivial⟩ ⟨⟨by omega, by omega, hnx.1, hnx.2⟩, H130⟩ (by omega)
  have h8 : i = 8 := by omega
  subst h8
  have hl8 : 8 ≤ l.length := by
    have := hg7 (by omega)
    have := (List.getElem?_eq_some_iff.1 this).1
    omega
  obtain ⟨k, hk⟩ : ∃ k, k = halfL (l.drop 8) true := ⟨_, rfl⟩
  have het : escL l = if k.2 ≠ 0 then ([], 0, k.2) else (encodeRune (65536 + 1024 * ((h.1 : Int) - 55296) + k.1 - 56320), 12, 0) := by
    rw [hes]; unfold escT
    rw [hg6 (by omega), hg7 (by omega), ← hk]
    rfl
  refine FW_exit (Qseq_exit (Qround_exit (Qblk_exit (Qseq_normal (Sr (Mv ?_))))))
  refine Vv (Gives.sliceFromT (i := 8) rfl rfl (by omega)) (FL_callS (half_ok4 (l.drop 8) true (by rw [List.length_drop]; omega)) (h := ?_))
  rw [← hk]
  refine Mv ?_
  refine Vx ?_
  refine Vx ?_
  refine Am ?_
  refine Am ?_
  refine Qn (FW_seq (Sr (Mv ?_)))
  refine Vn ?_
  refine Qn (Cp rfl (fun hc157 => ?_) (fun hc157 => ?_))
  · have hres : escL l = ([], 0, k.2) := by rw [het, if_pos hc157]
    refine Sr (Mv ?_)
    refine Am ?_
    refine Am ?_
    refine Am ?_
    refine Qn (Rs (Qfn_ret (hR := ?_)))
    exact ⟨by rw [hres]; rfl, H112.kept⟩
  have k20 : k.2 = 0 := by simpa using hc157
  have kv := half_val (s := l.drop 8) (second := true) (by rw [← hk]; exact k20)
  rw [← hk] at kv
  simp at kv
  have hres : escL l = (encodeRune (65536 + 1024 * ((h.1 : Int) - 55296) + k.1 - 56320), 12, 0) := by rw [het, if_neg (by simpa using k20)]
  refine Sk (Sr (Mv ?_))
  refine Vv (Gives.subI rfl rfl rfl (by omega)) (Vv (Gives.mulI rfl rfl rfl (by omega)) ?_)
  refine Vv (Gives.addI rfl rfl rfl (by omega)) (Mv ?_)
  refine Vv (Gives.addI rfl rfl rfl (by omega)) (Vv (Gives.subI rfl rfl rfl (by omega)) ?_)
  refine Vv (Gives.convI32 rfl (by omega)) (FL_callQ H112 (put_ok (65536 + 1024 * ((h.1 : Int) - 55296) + k.1 - 56320) (by omega)) (h := fun w174 H174 _ => ?_))
  rw [putL_ok (by omega)]
  refine Mv ?_
  refine Vx ?_
  refine Vx ?_
  refine Am ?_
  refine Am ?_
  refine Nx (Mv ?_)
  refine Am ?_
  refine Am ?_
  refine Am ?_
  refine Qn (FW_ret (Qfn_ret (hR := ?_)))
  exact ⟨by rw [hres]; rfl, H174.kept⟩
end

def extL (s : List UInt8) (n : Nat) (c : UInt8) : List UInt8 := s ++ List.replicate (n - s.length) c
def hitL (s : List UInt8) (n : Nat) : Prop := okL (extL s n 128) n ∨ okL (extL s n 191) n
theorem next_hit {l : List UInt8} {n : Nat} (h1 : 1 ≤ n) (h4 : n ≤ 4) (hl : n ≤ l.length) : ((nextL l).isSome = true ∧ (nextP l).2 = n) ↔ okL l n := by
 constructor
 ·rintro ⟨h, rfl⟩
  exact (next_ok (r := (nextP l).1) (n := (nextP l).2) (nextP_some h)).2.2.2.1
 intro h
 have := next_of_ok h1 h4 hl h
 unfold nextP
 rw [this]; exact ⟨rfl, rfl⟩
theorem extL_len {s : List UInt8} {n : Nat} {c : UInt8} (h : s.length ≤ n) : (extL s n c).length = n := by
 unfold extL; rw [List.length_append, List.length_replicate]; omega
theorem none_high {a : UInt8} {t : List UInt8} (h : nextL (a :: t) = none) : 128 ≤ a.toNat := by
 refine Classical.byContradiction fun hn => ?_
 rw [next_ascii (by omega)] at h; cases h
theorem begins_iff {s : List UInt8} (hne : s ≠ []) (hs : nextL s = none) : beginsL s = true ↔ ∃ n, s.length < n ∧ n ≤ 4 ∧ hitL s n := by
 have e0 : (128 : UInt8).toNat = 128 := rfl
 have e1 : (191 : UInt8).toNat = 191 := rfl
 match s, hne, hs with
 | [a], _, hs =>
  have ha := none_high hs
  have ha2 := a.toNat_lt
  have h2 : hitL [a] 2 ↔ 194 ≤ a.toNat ∧ a.toNat ≤ 223 := by
   show okL [a, 128] 2 ∨ okL [a, 191] 2 ↔ _
   rw [ok2, ok2, e0, e1]; omega
  have h3 : hitL [a] 3 ↔ 224 ≤ a.toNat ∧ a.toNat ≤ 239 := by
   show okL [a, 128, 128] 3 ∨ okL [a, 191, 191] 3 ↔ _
   rw [ok3, ok3, e0, e1]; omega
  have h4 : hitL [a] 4 ↔ 240 ≤ a.toNat ∧ a.toNat ≤ 244 := by
   show okL [a, 128, 128, 128] 4 ∨ okL [a, 191, 191, 191] 4 ↔ _
   rw [ok4, ok4, e0, e1]; omega
  have key : beginsL [a] = true ↔ hitL [a] 2 ∨ hitL [a] 3 ∨ hitL [a] 4 := by
   rw [h2, h3, h4]
   simp only [beginsL, decide_eq_true_eq]
   omega
  rw [key]
  constructor
  ·rintro (h | h | h)
   ·exact ⟨2, by simp, by omega, h⟩
   ·exact ⟨3, by simp, by omega, h⟩
   exact ⟨4, by simp, by omega, h⟩
  rintro ⟨n, h1, h5, h⟩
  simp only [List.length_cons, List.length_nil] at h1
  have : n = 2 ∨ n = 3 ∨ n = 4 := by omega
  rcases this with rfl | rfl | rfl
  ·exact .inl h
  ·exact .inr (.inl h)
  exact .inr (.inr h)
 | [a, b], _, hs =>
  have ha := none_high hs
  have ha2 := a.toNat_lt
  have hb2 := b.toNat_lt
  have hno : ¬ okL [a, b] 2 := fun h => by rw [next_of_ok (by omega) (by omega) (by simp) h] at hs; cases hs
  rw [ok2] at hno
  have h3 : hitL [a, b] 3 ↔ (a.toNat = 224 ∧ 160 ≤ b.toNat ∧ b.toNat ≤ 191) ∨ ((225 ≤ a.toNat ∧ a.toNat ≤ 236 ∨ 238 ≤ a.toNat ∧ a.toNat ≤ 239) ∧ 128 ≤ b.toNat ∧ b.toNat ≤ 191) ∨ (a.toNat = 237 ∧ 128 ≤ b.toNat ∧ b.toNat ≤ 159) := by
   show okL [a, b, 128] 3 ∨ okL [a, b, 191] 3 ↔ _
   rw [ok3, ok3, e0, e1]; omega
  have h4 : hitL [a, b] 4 ↔ (a.toNat = 240 ∧ 144 ≤ b.toNat ∧ b.toNat ≤ 191) ∨ (241 ≤ a.toNat ∧ a.toNat ≤ 243 ∧ 128 ≤ b.toNat ∧ b.toNat ≤ 191) ∨ (a.toNat = 244 ∧ 128 ≤ b.toNat ∧ b.toNat ≤ 143) := by
   show okL [a, b, 128, 128] 4 ∨ okL [a, b, 191, 191] 4 ↔ _
   rw [ok4, ok4, e0, e1]; omega
  have key : beginsL [a, b] = true ↔ hitL [a, b] 3 ∨ hitL [a, b] 4 := by
   rw [h3, h4]
   simp only [beginsL, decide_eq_true_eq]
   omega
  rw [key]
  constructor
  ·rintro (h | h)
   ·exact ⟨3, by simp, by omega, h⟩
   exact ⟨4, by simp, by omega, h⟩
  rintro ⟨n, h1, h5, h⟩
  simp only [List.length_cons, List.length_nil] at h1
  have : n = 3 ∨ n = 4 := by omega
  rcases this with rfl | rfl
  ·exact .inl h
  exact .inr h
 | [a, b, c], _, hs =>
  have ha2 := a.toNat_lt
  have hb2 := b.toNat_lt
  have hc2 := c.toNat_lt
  have h4 : hitL [a, b, c] 4 ↔ ((a.toNat = 240 ∧ 144 ≤ b.toNat ∧ b.toNat ≤ 191) ∨ (241 ≤ a.toNat ∧ a.toNat ≤ 243 ∧ 128 ≤ b.toNat ∧ b.toNat ≤ 191) ∨ (a.toNat = 244 ∧ 128 ≤ b.toNat ∧ b.toNat ≤ 143)) ∧ 128 ≤ c.toNat ∧ c.toNat ≤ 191 := by
   show okL [a, b, c, 128] 4 ∨ okL [a, b, c, 191] 4 ↔ _
   rw [ok4, ok4, e0, e1]; omega
  have key : beginsL [a, b, c] = true ↔ hitL [a, b, c] 4 := by
   rw [h4]
   simp only [beginsL, decide_eq_true_eq]
  rw [key]
  constructor
  ·intro h; exact ⟨4, by simp, by omega, h⟩
  rintro ⟨n, h1, h5, h⟩
  simp only [List.length_cons, List.length_nil] at h1
  have : n = 4 := by omega
  subst this; exact h
 | a :: b :: c :: d :: t, _, _ =>
  simp only [beginsL, Bool.false_eq_true, false_iff]
  rintro ⟨n, h1, h5, _⟩
  simp only [List.length_cons] at h1
  omega
section
variable {w : World} {l : List UInt8}
theorem begins_ok4 (s : List UInt8) (hne : s ≠ []) (hs : nextL s = none) (hl : s.length ≤ 9223372036854775000) : Rets Tryz.prog 246 [str s] w fun v w' => v = .bool (beginsL s) ∧ Kept noB w w' := by
 have H := Sep.start0 w
 have hpos : 1 ≤ s.length := List.length_pos_iff.2 hne
 refine rets1 Tryz.func246 rfl rfl rfl rfl ?_
 refine Sr (Am ?_)
 refine Qn (FW_seq (Sr (Mv ?_)))
 refine Vt ?_
 refine Vv (Gives.addI rfl rfl rfl (by omega)) (Am ?_)
 refine Qn (FW_block (FW_loop' (fun n : Nat => [(0, str s), (3, I n)]) (fun n w' => (s.length < n ∧ ∀ j, s.length < j → j < n → j ≤ 4 → ¬ hitL s j) ∧ Sep w noB [] w') (fun n _ => 5 - n) (s.length + 1) ⟨rfl, rfl, trivial⟩ ⟨⟨by omega, fun j h1 h2 => by omega⟩, H⟩ (fun n τ w7 hI => ?_)))
 obtain ⟨⟨hn, hno⟩, H7⟩ := hI
 try simp only [upds, like, upd_ds, und_ds]
 refine FW_seq (Sr (Mv ?_))
 refine Vv (Gives.leq rfl rfl) (Qn ?_)
 refine Cp rfl (fun hc10 => ?_) (fun hc10 => ?_)
 ·have hn4 : n ≤ 4 := by omega
  refine Sk (FW_seq (FW_block (Sr (Mv ?_))))
  refine Mv ?_
  refine Am ?_
  refine Am ?_
  refine Qn (FW_seq (FW_block (FW_loop' (fun j : Nat => [(0, str s), (3, I n), (4, str (s ++ List.replicate j 128)), (5, str (s ++ List.replicate j 191))]) (fun j w' => s.length + j ≤ n ∧ Sep w noB [] w') (fun j _ => n - j) 0 ⟨rfl, rfl, by simp; rfl, by simp; rfl, trivial⟩ ⟨by omega, H7⟩ (fun j τ w17 hI => ?_))))
  obtain ⟨hj, H17⟩ := hI
  try simp only [upds, like, upd_ds]
  refine FW_seq (Sr (Mv ?_))
  refine Vt ?_
  rw [List.length_append, List.length_replicate]
  refine Mv ?_
  refine Vl ?_
  refine Qn (Cp rfl (fun hc22 => ?_) (fun hc22 => ?_))
  ·have hjn : s.length + j < n := by omega
   refine Sk (FW_block (Sr (Mv ?_)))
   refine Vv (Gives.catT (b := [128]) rfl rfl (by rw [List.length_append, List.length_replicate]; simp; omega)) ?_
   refine Am ?_
   refine Qn (FW_region (Mv ?_))
   refine Vv (Gives.catT (b := [191]) rfl rfl (by rw [List.length_append, List.length_replicate]; simp; omega)) ?_
   refine Am ?_
   refine FL_nil (Qblk_normal ?_)
   exact Qround_normal (j + 1) ⟨rfl, rfl, by rw [List.replicate_succ', ← List.append_assoc]; rfl, by rw [List.replicate_succ', ← List.append_assoc]; rfl, trivial⟩ ⟨by omega, H17⟩ (by omega)
  have hjn : j = n - s.length := by omega
  subst hjn
  refine FW_exit (Qseq_exit (Qround_exit (Qblk_exit (Qseq_normal (Sr (Mv ?_))))))
  refine FL_callQ H17 (next_ok4 (extL s n 128) (by rw [extL_len (by omega)]; omega)) (h := fun w34 H34 _ => ?_)
  refine Mv ?_
  refine Vx ?_
  refine Vx ?_
  refine Vx ?_
  refine Am ?_
  refine Am ?_
  refine Am ?_
  refine Nx (Mv ?_)
  refine FL_callQ H34 (next_ok4 (extL s n 191) (by rw [extL_len (by omega)]; omega)) (h := fun w44 H44 _ => ?_)
  refine Mv ?_
  refine Vx ?_
  refine Vx ?_
  refine Vx ?_
  refine Am ?_
  refine Am ?_
  refine Am ?_
  refine Nx ?_
  have hnl := next_hit (l := extL s n 128) (n := n) (by omega) hn4 (by rw [extL_len (by omega)]; omega)
  have hnh := next_hit (l := extL s n 191) (n := n) (by omega) hn4 (by rw [extL_len (by omega)]; omega)
  refine Mv ?_
  refine Mv ?_
  refine FL_split (t := 42) rfl (fun hs54 => ?_) (fun hs54 => ?_)
  ·refine On (Mv ?_)
   refine On (Mv ?_)
   refine On (Ve ?_)
   refine Pt ?_
   refine Mv ?_
   refine FL_splitP (t := 47) rfl (fun hs60 => ?_) (fun hs60 => ?_)
   ·refine Of (Of (Ou (Ou (Ou (Of (Pt ?_))))))
    refine Qn (FW_cond_true rfl ?_)
    refine Sr (Am ?_)
    refine Qn (Rb (Qround_ret (Qblk_ret (Qseq_ret (Qfn_ret (hR := ?_))))))
    have hres : beginsL s = true := (begins_iff hne hs).2 ⟨n, hn, hn4, by unfold hitL; rw [← hnl, ← hnh]; first | exact .inl ⟨by assumption, by omega⟩ | exact .inr ⟨by assumption, by omega⟩⟩
    exact ⟨by rw [hres]; rfl, H44.kept⟩
   refine On (Mv ?_)
   refine On (Mv ?_)
   refine FL_split (t := 49) rfl (fun hs66 => ?_) (fun hs66 => ?_)
   ·refine On (Mv ?_)
    refine On (Mv ?_)
    refine On (Ve ?_)
    refine On (Pt ?_)
    refine Pf ?_
    refine Qn (Cp rfl (fun hc72 => ?_) (fun hc72 => ?_))
    ·refine Sr (Am ?_)
     refine Qn (Rb (Qround_ret (Qblk_ret (Qseq_ret (Qfn_ret (hR := ?_))))))
     have hres : beginsL s = true := (begins_iff hne hs).2 ⟨n, hn, hn4, by unfold hitL; rw [← hnl, ← hnh]; first | exact .inl ⟨by assumption, by omega⟩ | exact .inr ⟨by assumption, by omega⟩⟩
     exact ⟨by rw [hres]; rfl, H44.kept⟩
    refine FW_skip (Qblk_normal (Qseq_normal (FW_region (Mv ?_))))
    refine Vv (Gives.addI rfl rfl rfl (by omega)) (Am ?_)
    refine FL_nil ?_
    exact Qround_normal (n + 1) ⟨rfl, rfl, trivial⟩ ⟨⟨by omega, fun j a b c => by
    rcases Nat.lt_or_ge j n with h | h
    ·exact hno j a h c
    have : j = n := by omega
    subst this
    unfold hitL
    rw [← hnl, ← hnh]
    rintro (⟨x, y⟩ | ⟨x, y⟩) <;> simp_all⟩, H44⟩ (by omega)
   refine Of (Of (Of (On (Pf ?_))))
   refine Pf ?_
   refine Qn (FW_cond_false rfl ?_)
   refine FW_skip (Qblk_normal (Qseq_normal (FW_region (Mv ?_))))
   refine Vv (Gives.addI rfl rfl rfl (by omega)) (Am ?_)
   refine FL_nil ?_
   exact Qround_normal (n + 1) ⟨rfl, rfl, trivial⟩ ⟨⟨by omega, fun j a b c => by
   rcases Nat.lt_or_ge j n with h | h
   ·exact hno j a h c
   have : j = n := by omega
   subst this
   unfold hitL
   rw [← hnl, ← hnh]
   rintro (⟨x, y⟩ | ⟨x, y⟩) <;> simp_all⟩, H44⟩ (by omega)
  refine Of (Of (Of (Pf ?_)))
  refine Mv ?_
  refine On (Mv ?_)
  refine On (Mv ?_)
  refine FL_split (t := 49) rfl (fun hs89 => ?_) (fun hs89 => ?_)
  ·refine On (Mv ?_)
   refine On (Mv ?_)
   refine On (Ve ?_)
   refine On (Pt ?_)
   refine Pf ?_
   refine Qn (Cp rfl (fun hc95 => ?_) (fun hc95 => ?_))
   ·refine Sr (Am ?_)
    refine Qn (Rb (Qround_ret (Qblk_ret (Qseq_ret (Qfn_ret (hR := ?_))))))
    have hres : beginsL s = true := (begins_iff hne hs).2 ⟨n, hn, hn4, by unfold hitL; rw [← hnl, ← hnh]; first | exact .inl ⟨by assumption, by omega⟩ | exact .inr ⟨by assumption, by omega⟩⟩
    exact ⟨by rw [hres]; rfl, H44.kept⟩
   refine FW_skip (Qblk_normal (Qseq_normal (FW_region (Mv ?_))))
   refine Vv (Gives.addI rfl rfl rfl (by omega)) (Am ?_)
   refine FL_nil ?_
   exact Qround_normal (n + 1) ⟨rfl, rfl, trivial⟩ ⟨⟨by omega, fun j a b c => by
   rcases Nat.lt_or_ge j n with h | h
   ·exact hno j a h c
   have : j = n := by omega
   subst this
   unfold hitL
   rw [← hnl, ← hnh]
   rintro (⟨x, y⟩ | ⟨x, y⟩) <;> simp_all⟩, H44⟩ (by omega)
  refine Of (Of (Of (On (Pf ?_))))
  refine Pf ?_
  refine Qn (FW_cond_false rfl ?_)
  refine FW_skip (Qblk_normal (Qseq_normal (FW_region (Mv ?_))))
  refine Vv (Gives.addI rfl rfl rfl (by omega)) (Am ?_)
  refine FL_nil ?_
  exact Qround_normal (n + 1) ⟨rfl, rfl, trivial⟩ ⟨⟨by omega, fun j a b c => by
  rcases Nat.lt_or_ge j n with h | h
  ·exact hno j a h c
  have : j = n := by omega
  subst this
  unfold hitL
  rw [← hnl, ← hnh]
  rintro (⟨x, y⟩ | ⟨x, y⟩) <;> simp_all⟩, H44⟩ (by omega)
 have hres : beginsL s = false := by
  rw [← Bool.not_eq_true, begins_iff hne hs]
  rintro ⟨j, h1, h2, h3⟩
  exact hno j h1 (by omega) h2 h3
 refine FW_exit (Qseq_exit (Qround_exit (Qblk_exit (Qseq_normal (Sr (Am ?_))))))
 refine Qn (FW_ret (Qfn_ret (hR := ?_)))
 exact ⟨by rw [hres]; rfl, H7.kept⟩
end
end Go.Proofs.YtolaedhdjcnijaaGreatDoor
