/-
 The document's literals, walked.
-/
import Derived.Test.YtmkaahkbhdlniaaGreatDoorTx9
set_option linter.unusedVariables false
set_option linter.unusedSimpArgs false
namespace Go.Proofs.YtmkaahkbhdlniaaGreatDoor
open Go Go.Mw Go.Lib
set_option maxRecDepth 4000

section
variable {w : World} {l : List UInt8}
theorem valid_ok4 (l : List UInt8) (hl : l.length ≤ 9223372036854775807) : Rets Tryz.prog 88 [str l] w fun v w' => v = .bool (validD l) ∧ Kept noB w w' := by
 have H := Sep.start0 w
 refine rets1 Tryz.func88 rfl rfl rfl rfl ?_
 refine Sr ?_
 refine Am ?_
 refine Qn ?_
 refine FW_seq ?_
 refine FW_block ?_
 refine FW_loop' (fun m : List UInt8 => [(0, str m)]) (fun m w' => (m.length ≤ l.length ∧ validD m = validD l) ∧ Sep w noB [] w') (fun m _ => m.length) l ⟨rfl, trivial⟩ ⟨⟨Nat.le_refl _, rfl⟩, H⟩ (fun m τ w3 hI => ?_)
 obtain ⟨⟨hm1, hm2⟩, H3⟩ := hI
 try simp only [upds, like, upd_ds, und_ds]
 refine FW_seq ?_
 refine Sr ?_
 refine Mv ?_
 refine Vt ?_
 refine Vg ?_
 refine Qn ?_
 refine FW_condP rfl (fun hc7 => ?_) (fun hc7 => ?_)
 ·have hne : m ≠ [] := fun e => by rw [e] at hc7; simp at hc7
  have hst := valid_next hne
  refine Sk ?_
  refine FW_block ?_
  refine Sr ?_
  refine Mv ?_
  refine FL_callQ H3 (next_ok4 m (by omega)) (h := fun w11 H11 _ => ?_)
  refine Mv ?_
  refine Vx ?_
  refine Vx ?_
  refine Vx ?_
  refine Am ?_
  refine Am ?_
  refine Am ?_
  refine Qn ?_
  refine FW_seq ?_
  refine Sr ?_
  refine Mv ?_
  refine FL_val (Gives.not rfl) rfl ?_
  refine Qn ?_
  refine FW_cond rfl (fun hc21 => ?_) (fun hc21 => ?_)
  ·have hv : validD l = false := by rw [← hm2, hst, if_neg (by simpa using hc21)]
   refine Sr ?_
   refine Am ?_
   refine Qn ?_
   refine Rs (Qblk_ret (Qround_ret (Qblk_ret (Qseq_ret (Qfn_ret (hR := ?_))))))
   exact ⟨by rw [hv]; rfl, H11.kept⟩
  ·have hs : (nextL m).isSome = true := by simpa using hc21
   have hle := nextP_le hs
   refine Sk ?_
   refine FW_region ?_
   refine Mv ?_
   refine Mv ?_
   refine FL_val (Gives.sliceFromT rfl rfl (by omega)) rfl ?_
   refine Am ?_
   refine FL_nil (Qblk_normal ?_)
   exact Qround_normal (m.drop (nextP m).2) ⟨rfl, trivial⟩ ⟨⟨by rw [List.length_drop]; omega, by rw [← hm2, hst, if_pos hs]⟩, H11⟩ (by rw [List.length_drop]; omega)
 ·have he : m = [] := List.eq_nil_of_length_eq_zero (by omega)
  have hv : validD l = true := by rw [← hm2, he]; rfl
  refine FW_exit (Qseq_exit (Qround_exit (Qblk_exit (Qseq_normal ?_))))
  refine Sr ?_
  refine Am ?_
  refine Qn ?_
  refine FW_ret (Qfn_ret (hR := ?_))
  exact ⟨by rw [hv]; rfl, H3.kept⟩
/-- A digit's number; below 0: it is none. -/
def digI (c : UInt8) : Int := match digitL c with | some d => d | none => -1
def digS : List UInt8 := [48, 49, 50, 51, 52, 53, 54, 55, 56, 57, 97, 98, 99, 100, 101, 102]
def digC : List UInt8 := [48, 49, 50, 51, 52, 53, 54, 55, 56, 57, 65, 66, 67, 68, 69, 70]
theorem dig_at {c : UInt8} {i : Nat} (h : i < 16) (hc : c.toNat = (digS.getD i 0).toNat ∨ c.toNat = (digC.getD i 0).toNat) : digI c = i := by
 have key : ∀ i : Fin 16, digI (digS.getD i.val 0) = (i.val : Int) ∧ digI (digC.getD i.val 0) = (i.val : Int) := by decide
 rcases hc with hc | hc
 ·rw [UInt8.toNat_inj.1 hc]; exact (key ⟨i, h⟩).1
 ·rw [UInt8.toNat_inj.1 hc]; exact (key ⟨i, h⟩).2
theorem dig_no {c : UInt8} (h : ∀ i, i < 16 → ¬ (c.toNat = (digS.getD i 0).toNat ∨ c.toNat = (digC.getD i 0).toNat)) : digI c = -1 := by
 have k : ∀ i : Nat, i < 16 → c.toNat ≠ (digS.getD i 0).toNat ∧ c.toNat ≠ (digC.getD i 0).toNat := fun i hi => ⟨fun e => h i hi (.inl e), fun e => h i hi (.inr e)⟩
 have k0 := k 0 (by omega); have k1 := k 1 (by omega); have k2 := k 2 (by omega); have k3 := k 3 (by omega); have k4 := k 4 (by omega); have k5 := k 5 (by omega); have k6 := k 6 (by omega); have k7 := k 7 (by omega); have k8 := k 8 (by omega); have k9 := k 9 (by omega)
 have ka := k 10 (by omega); have kb := k 11 (by omega); have kc := k 12 (by omega); have kd := k 13 (by omega); have ke := k 14 (by omega); have kf := k 15 (by omega)
 simp [digS, digC] at k0 k1 k2 k3 k4 k5 k6 k7 k8 k9 ka kb kc kd ke kf
 unfold digI digitL
 rw [if_neg (by omega), if_neg (by omega), if_neg (by omega)]
theorem digit_ok4 (c : UInt8) : Rets Tryz.prog 245 [B c] w fun v w' => v = I (digI c) ∧ w = w' := by
 refine rets1 Tryz.func245 rfl rfl rfl rfl ?_
 have H := Sep.start0 w
 refine Sr ?_
 refine Am ?_
 refine Qn ?_
 refine FW_seq ?_
 refine Sr ?_
 refine Am ?_
 refine Qn ?_
 refine FW_block ?_
 refine FW_loop' (fun i : Nat => [(0, B c), (3, I i)]) (fun i w' => (i ≤ 16 ∧ ∀ j, j < i → ¬ (c.toNat = (digS.getD j 0).toNat ∨ c.toNat = (digC.getD j 0).toNat)) ∧ w = w') (fun i _ => 16 - i) 0 ⟨rfl, rfl, trivial⟩ ⟨⟨by omega, fun j hj => by omega⟩, rfl⟩ (fun i τ w4 hI => ?_)
 obtain ⟨⟨hi, hno⟩, rfl⟩ := hI
 try simp only [upds, like, upd_ds, und_ds]
 refine FW_seq ?_
 refine Sr ?_
 refine Mv ?_
 refine Vl ?_
 refine Qn ?_
 refine FW_condP rfl (fun hc7 => ?_) (fun hc7 => ?_)
 ·have hlt : i < 16 := by omega
  refine Sk ?_
  refine FW_seq ?_
  refine FW_block ?_
  refine Sr ?_
  refine Mv ?_
  refine Mv ?_
  refine FL_val (Gives.idxD (l := digS) rfl rfl hlt) rfl ?_
  refine Ve ?_
  refine Mv ?_
  refine FL_splitP (t := 12) rfl (fun hs14 => ?_) (fun hs14 => ?_)
  ·have hd : digI c = i := dig_at hlt (.inl (by omega))
   refine Of ?_
   refine Of ?_
   refine Of ?_
   refine Of ?_
   refine Pt ?_
   refine Qn ?_
   refine FW_cond_true rfl ?_
   refine Sr ?_
   refine Mv ?_
   refine Am ?_
   refine Qn ?_
   refine Rb (Qround_ret (Qblk_ret (Qseq_ret (Qfn_ret (hR := ?_)))))
   exact ⟨by rw [hd]; rfl, rfl⟩
  ·refine On ?_
   refine Mv ?_
   refine On ?_
   refine Mv ?_
   refine On ?_
   refine FL_val (Gives.idxD (l := digC) rfl rfl hlt) rfl ?_
   refine On ?_
   refine Ve ?_
   refine Pf ?_
   refine Qn ?_
   refine FW_condP rfl (fun hc25 => ?_) (fun hc25 => ?_)
   ·have hd : digI c = i := dig_at hlt (.inr (by omega))
    refine Sr ?_
    refine Mv ?_
    refine Am ?_
    refine Qn ?_
    refine Rb (Qround_ret (Qblk_ret (Qseq_ret (Qfn_ret (hR := ?_)))))
    exact ⟨by rw [hd]; rfl, rfl⟩
   ·refine FW_skip (Qblk_normal (Qseq_normal ?_))
    refine FW_region ?_
    refine Mv ?_
    refine FL_val (Gives.addI rfl rfl rfl (by omega)) rfl ?_
    refine Am ?_
    refine FL_nil ?_
    exact Qround_normal (i + 1) ⟨rfl, rfl, trivial⟩ ⟨⟨by omega, fun j hj => by
    rcases Nat.lt_or_ge j i with h | h
    ·exact hno j h
    ·have : j = i := by omega
     subst this; omega⟩, rfl⟩ (by omega)
 ·have hd : digI c = -1 := dig_no fun j hj => hno j (by omega)
  refine FW_exit (Qseq_exit (Qround_exit (Qblk_exit (Qseq_normal ?_))))
  refine Sr ?_
  refine Am ?_
  refine Qn ?_
  refine FW_ret (Qfn_ret (hR := ?_))
  exact ⟨by rw [hd]; rfl, rfl⟩
def halfF (s : List UInt8) (second : Bool) : Nat → Nat → Nat → Nat × Int
 | 0, _, n => (n, 0)
 | f + 1, i, n => match s[i]? with
  | none => (0, 3)
  | some c => match digitL c with
   | none => (0, 41)
   | some d => if (i = 0 ∧ second = true ∧ 16 * n + d ≠ 13) ∨ (i = 1 ∧ ¬ (second = true ↔ (220 ≤ 16 * n + d ∧ 16 * n + d ≤ 223))) then (0, 41) else halfF s second f (i + 1) (16 * n + d)
theorem halfF_eq (s : List UInt8) (second : Bool) : halfF s second 4 0 0 = halfL s second := by
 unfold halfL
 cases h0 : s[0]? with
 | none => simp [halfF, h0]
 | some c0 =>
  cases d0 : digitL c0 with
  | none => simp [halfF, h0, d0]
  | some d0' =>
   cases h1 : s[1]? with
   | none => cases second <;> simp [halfF, h0, d0, h1]
   | some c1 =>
    cases d1 : digitL c1 with
    | none => cases second <;> simp [halfF, h0, d0, h1, d1]
    | some d1' =>
     cases h2 : s[2]? with
     | none => cases second <;> simp [halfF, h0, d0, h1, d1, h2]
     | some c2 =>
      cases d2 : digitL c2 with
      | none => cases second <;> simp [halfF, h0, d0, h1, d1, h2, d2]
      | some d2' =>
       cases h3 : s[3]? with
       | none => cases second <;> simp [halfF, h0, d0, h1, d1, h2, d2, h3]
       | some c3 => cases d3 : digitL c3 <;> cases second <;> simp [halfF, h0, d0, h1, d1, h2, d2, h3, d3]
theorem digI_neg {c : UInt8} (h : digI c < 0) : digitL c = none := by
 unfold digI at h
 split at h
 ·omega
 ·assumption
theorem digI_pos {c : UInt8} (h : ¬ digI c < 0) : ∃ d, digitL c = some d ∧ digI c = d ∧ d < 16 := by
 unfold digI at h ⊢
 cases e : digitL c with
 | none => rw [e] at h; exact absurd (by decide) h
 | some d =>
  refine ⟨d, rfl, rfl, ?_⟩
  have := c.toNat_lt
  unfold digitL at e
  repeat' split at e
  all_goals first | (injection e with e; omega) | cases e
theorem half_ok4 (l : List UInt8) (second : Bool) (hl : l.length ≤ 9223372036854775807) : Rets Tryz.prog 229 [str l, .bool second] w fun v w' => v = .tuple #[I (halfL l second).1, I (halfL l second).2] ∧ w = w' := by
  refine rets2 Tryz.func229 rfl rfl rfl rfl ?_
  have H := Sep.start0 w
  rw [← halfF_eq]
  obtain ⟨res, hres⟩ : ∃ res, halfF l second 4 0 0 = res := ⟨_, rfl⟩
  rw [hres]
  refine Sr ?_
  refine Am ?_
  refine Am ?_
  refine Nx ?_
  refine Am ?_
  refine Qn ?_
  refine FW_seq ?_
  refine Sr ?_
  refine Am ?_
  refine Qn ?_
  refine FW_block ?_
  refine FW_loop' (fun x : Nat × Nat => [(0, str l), (1, .bool second), (6, I x.2), (7, I x.1)]) (fun x w' => (x.1 ≤ 4 ∧ x.2 < 16 ^ x.1 ∧ halfF l second (4 - x.1) x.1 x.2 = res) ∧ w = w') (fun x _ => 4 - x.1) (0, 0) ⟨rfl, rfl, rfl, rfl, trivial⟩ ⟨⟨by simp, by simp, hres⟩, rfl⟩ (fun x τ w6 hI => ?_)
  obtain ⟨i, m⟩ := x
  obtain ⟨⟨hi, hm, hr⟩, rfl⟩ := hI
  dsimp only at hi hm hr
  try simp only [upds, like, upd_ds, und_ds]
  refine FW_seq ?_
  refine Sr ?_
  refine Mv ?_
  refine Vl ?_
  refine Qn ?_
  refine FW_condP rfl (fun hc9 => ?_) (fun hc9 => ?_)
  · have hlt : i < 4 := by omega
    refine Sk ?_
    refine FW_seq ?_
    refine FW_block ?_
    refine FW_seq ?_
    refine Sr ?_
    refine Mv ?_
    refine Mv ?_
    refine Vt ?_
    refine FL_val (Gives.geq rfl rfl) rfl ?_
    refine Qn ?_
    refine FW_condP rfl (fun hc15 => ?_) (fun hc15 => ?_)
    · have hfin : ((0 : Nat), (3 : Int)) = res := by
        rw [← hr, show 4 - i = (3 - i) + 1 by omega, halfF, List.getElem?_eq_none (by omega)]
      refine Sr ?_
      refine Am ?_
      refine Am ?_
      refine Qn ?_
      refine Rs (Qblk_ret (Qseq_ret (Qround_ret (Qblk_ret (Qseq_ret (Qfn_ret (hR := ?_)))))))
      exact ⟨by rw [← hfin]; rfl, rfl⟩
    · have hil : i < l.length := by omega
      have hg : l[i]? = some (l.getD i 0) := by rw [List.getD_eq_getElem?_getD, List.getElem?_eq_getElem hil]; rfl
      refine Sk ?_
      refine Sr ?_
      refine Mv ?_
      refine Mv ?_
      refine FL_val (Gives.idxD rfl rfl (by omega)) rfl ?_
      refine FL_callS (digit_ok4 (l.getD i 0)) (h := ?_)
      refine Am ?_
      refine Qn ?_
      refine FW_seq ?_
      refine Sr ?_
      refine Mv ?_
      refine Vl ?_
      refine Qn ?_
      refine FW_condP rfl (fun hc28 => ?_) (fun hc28 => ?_)
      · have hfin : ((0 : Nat), (41 : Int)) = res := by
          rw [← hr, show 4 - i = (3 - i) + 1 by omega, halfF, hg]
          simp only [digI_neg hc28]
        refine Sr ?_
        refine Am ?_
        refine Am ?_
        refine Qn ?_
        refine Rs (Qblk_ret (Qseq_ret (Qround_ret (Qblk_ret (Qseq_ret (Qfn_ret (hR := ?_)))))))
        exact ⟨by rw [← hfin]; rfl, rfl⟩
      · obtain ⟨d, hd1, hd2, hd3⟩ := digI_pos hc28
        have hstep : halfF l second (4 - i) i m = if (i = 0 ∧ second = true ∧ 16 * m + d ≠ 13) ∨ (i = 1 ∧ ¬ (second = true ↔ (220 ≤ 16 * m + d ∧ 16 * m + d ≤ 223))) then (0, 41) else halfF l second (4 - (i + 1)) (i + 1) (16 * m + d) := by
          rw [show 4 - i = (4 - (i + 1)) + 1 by omega, halfF, hg]
          simp only [hd1]
        rw [hr] at hstep
        have hm2 : m < 4096 := by
          have : i = 0 ∨ i = 1 ∨ i = 2 ∨ i = 3 := by omega
          rcases this with rfl | rfl | rfl | rfl <;> simp at hm <;> omega
        have hm3 : 16 * m + d < 16 ^ (i + 1) := by rw [Nat.pow_succ]; omega
        rw [hd2]
        refine Sk ?_
        refine Sr ?_
        refine Mv ?_
        refine FL_val (Gives.mulI rfl rfl rfl (by omega)) rfl ?_
        refine Mv ?_
        refine FL_val (Gives.addI rfl rfl rfl (by omega)) rfl ?_
        refine Am ?_
        refine Nx ?_
        refine Mv ?_
        refine Ve ?_
        refine Mv ?_
        refine FL_splitP (t := 29) rfl (fun hs42 => ?_) (fun hs42 => ?_)
        · refine On ?_
          refine Mv ?_
          refine Pt ?_
          refine Mv ?_
          refine FL_split (t := 32) rfl (fun hs46 => ?_) (fun hs46 => ?_)
          · refine On ?_
            refine Mv ?_
            refine On ?_
            refine Vn ?_
            refine Pt ?_
            refine Mv ?_
            refine FL_splitP (t := 36) rfl (fun hs51 => ?_) (fun hs51 => ?_)
            · refine Of ?_
              refine Of ?_
              refine Of ?_
              refine Ou ?_
              refine Ou ?_
              refine Ou ?_
              refine Ou ?_
              refine Ou ?_
              refine Ou ?_
              refine Ou ?_
              refine Ou ?_
              refine Of ?_
              refine Pt ?_
              refine Qn ?_
              refine FW_cond_true rfl ?_
              refine Sr ?_
              refine Am ?_
              refine Am ?_
              refine Qn ?_
              refine Rb (Qround_ret (Qblk_ret (Qseq_ret (Qfn_ret (hR := ?_)))))
              exact ⟨by rw [hstep, if_pos (by cases second <;> simp at * <;> omega)]; rfl, rfl⟩
            · refine On ?_
              refine Mv ?_
              refine On ?_
              refine Ve ?_
              refine On ?_
              refine Mv ?_
              refine FL_splitP (t := 39) rfl (fun hs59 => ?_) (fun hs59 => ?_)
              · refine On ?_
                refine Mv ?_
                refine On ?_
                refine Mv ?_
                refine On ?_
                refine FL_val (Gives.geq rfl rfl) rfl ?_
                refine On ?_
                refine Mv ?_
                refine FL_splitP (t := 43) rfl (fun hs64 => ?_) (fun hs64 => ?_)
                · refine On ?_
                  refine Mv ?_
                  refine On ?_
                  refine FL_val (Gives.leq rfl rfl) rfl ?_
                  refine On ?_
                  refine Pt ?_
                  refine On ?_
                  refine FL_val (Gives.neqB rfl rfl) rfl ?_
                  refine On ?_
                  refine Pt ?_
                  refine Pf ?_
                  refine Qn ?_
                  refine FW_cond rfl (fun hc71 => ?_) (fun hc71 => ?_)
                  · refine Sr ?_
                    refine Am ?_
                    refine Am ?_
                    refine Qn ?_
                    refine Rb (Qround_ret (Qblk_ret (Qseq_ret (Qfn_ret (hR := ?_)))))
                    exact ⟨by rw [hstep, if_pos (by cases second <;> simp at * <;> omega)]; rfl, rfl⟩
                  · refine FW_skip (Qblk_normal (Qseq_normal ?_))
                    refine FW_region ?_
                    refine Mv ?_
                    refine FL_val (Gives.addI rfl rfl rfl (by omega)) rfl ?_
                    refine Am ?_
                    refine FL_nil ?_
                    exact Qround_normal (i + 1, 16 * m + d) ⟨rfl, rfl, by dsimp only; rw [Int.natCast_add, Int.natCast_mul]; rfl, rfl, trivial⟩ ⟨⟨by dsimp only; omega, hm3, (hstep.trans (if_neg (by cases second <;> simp at * <;> omega))).symm⟩, rfl⟩ (by dsimp only; omega)
                · refine Of ?_
                  refine Of ?_
                  refine On ?_
                  refine Pf ?_
                  refine On ?_
                  refine FL_val (Gives.neqB rfl rfl) rfl ?_
                  refine On ?_
                  refine Pt ?_
                  refine Pf ?_
                  refine Qn ?_
                  refine FW_cond rfl (fun hc83 => ?_) (fun hc83 => ?_)
                  · refine Sr ?_
                    refine Am ?_
                    refine Am ?_
                    refine Qn ?_
                    refine Rb (Qround_ret (Qblk_ret (Qseq_ret (Qfn_ret (hR := ?_)))))
                    exact ⟨by rw [hstep, if_pos (by cases second <;> simp at * <;> omega)]; rfl, rfl⟩
                  · refine FW_skip (Qblk_normal (Qseq_normal ?_))
                    refine FW_region ?_
                    refine Mv ?_
                    refine FL_val (Gives.addI rfl rfl rfl (by omega)) rfl ?_
                    refine Am ?_
                    refine FL_nil ?_
                    exact Qround_normal (i + 1, 16 * m + d) ⟨rfl, rfl, by dsimp only; rw [Int.natCast_add, Int.natCast_mul]; rfl, rfl, trivial⟩ ⟨⟨by dsimp only; omega, hm3, (hstep.trans (if_neg (by cases second <;> simp at * <;> omega))).symm⟩, rfl⟩ (by dsimp only; omega)
              · refine Of ?_
                refine Of ?_
                refine Of ?_
                refine Of ?_
                refine Ou ?_
                refine Ou ?_
                refine Of ?_
                refine Of ?_
                refine On ?_
                refine Pf ?_
                refine Pf ?_
                refine Qn ?_
                refine FW_cond_false rfl ?_
                refine FW_skip (Qblk_normal (Qseq_normal ?_))
                refine FW_region ?_
                refine Mv ?_
                refine FL_val (Gives.addI rfl rfl rfl (by omega)) rfl ?_
                refine Am ?_
                refine FL_nil ?_
                exact Qround_normal (i + 1, 16 * m + d) ⟨rfl, rfl, by dsimp only; rw [Int.natCast_add, Int.natCast_mul]; rfl, rfl, trivial⟩ ⟨⟨by dsimp only; omega, hm3, (hstep.trans (if_neg (by cases second <;> simp at * <;> omega))).symm⟩, rfl⟩ (by dsimp only; omega)
          · refine Of ?_
            refine Of ?_
            refine Pf ?_
            refine Mv ?_
            refine On ?_
            refine Mv ?_
            refine On ?_
            refine Ve ?_
            refine On ?_
            refine Mv ?_
            refine FL_splitP (t := 39) rfl (fun hs102 => ?_) (fun hs102 => ?_)
            · refine On ?_
              refine Mv ?_
              refine On ?_
              refine Mv ?_
              refine On ?_
              refine FL_val (Gives.geq rfl rfl) rfl ?_
              refine On ?_
              refine Mv ?_
              refine FL_splitP (t := 43) rfl (fun hs107 => ?_) (fun hs107 => ?_)
              · refine On ?_
                refine Mv ?_
                refine On ?_
                refine FL_val (Gives.leq rfl rfl) rfl ?_
                refine On ?_
                refine Pt ?_
                refine On ?_
                refine FL_val (Gives.neqB rfl rfl) rfl ?_
                refine On ?_
                refine Pt ?_
                refine Pf ?_
                refine Qn ?_
                refine FW_cond rfl (fun hc114 => ?_) (fun hc114 => ?_)
                · refine Sr ?_
                  refine Am ?_
                  refine Am ?_
                  refine Qn ?_
                  refine Rb (Qround_ret (Qblk_ret (Qseq_ret (Qfn_ret (hR := ?_)))))
                  exact ⟨by rw [hstep, if_pos (by cases second <;> simp at * <;> omega)]; rfl, rfl⟩
                · refine FW_skip (Qblk_normal (Qseq_normal ?_))
                  refine FW_region ?_
                  refine Mv ?_
                  refine FL_val (Gives.addI rfl rfl rfl (by omega)) rfl ?_
                  refine Am ?_
                  refine FL_nil ?_
                  exact Qround_normal (i + 1, 16 * m + d) ⟨rfl, rfl, by dsimp only; rw [Int.natCast_add, Int.natCast_mul]; rfl, rfl, trivial⟩ ⟨⟨by dsimp only; omega, hm3, (hstep.trans (if_neg (by cases second <;> simp at * <;> omega))).symm⟩, rfl⟩ (by dsimp only; omega)
              · refine Of ?_
                refine Of ?_
                refine On ?_
                refine Pf ?_
                refine On ?_
                refine FL_val (Gives.neqB rfl rfl) rfl ?_
                refine On ?_
                refine Pt ?_
                refine Pf ?_
                refine Qn ?_
                refine FW_cond rfl (fun hc126 => ?_) (fun hc126 => ?_)
                · refine Sr ?_
                  refine Am ?_
                  refine Am ?_
                  refine Qn ?_
                  refine Rb (Qround_ret (Qblk_ret (Qseq_ret (Qfn_ret (hR := ?_)))))
                  exact ⟨by rw [hstep, if_pos (by cases second <;> simp at * <;> omega)]; rfl, rfl⟩
                · refine FW_skip (Qblk_normal (Qseq_normal ?_))
                  refine FW_region ?_
                  refine Mv ?_
                  refine FL_val (Gives.addI rfl rfl rfl (by omega)) rfl ?_
                  refine Am ?_
                  refine FL_nil ?_
                  exact Qround_normal (i + 1, 16 * m + d) ⟨rfl, rfl, by dsimp only; rw [Int.natCast_add, Int.natCast_mul]; rfl, rfl, trivial⟩ ⟨⟨by dsimp only; omega, hm3, (hstep.trans (if_neg (by cases second <;> simp at * <;> omega))).symm⟩, rfl⟩ (by dsimp only; omega)
            · refine Of ?_
              refine Of ?_
              refine Of ?_
              refine Of ?_
              refine Ou ?_
              refine Ou ?_
              refine Of ?_
              refine Of ?_
              refine On ?_
              refine Pf ?_
              refine Pf ?_
              refine Qn ?_
              refine FW_cond_false rfl ?_
              refine FW_skip (Qblk_normal (Qseq_normal ?_))
              refine FW_region ?_
              refine Mv ?_
              refine FL_val (Gives.addI rfl rfl rfl (by omega)) rfl ?_
              refine Am ?_
              refine FL_nil ?_
              exact Qround_normal (i + 1, 16 * m + d) ⟨rfl, rfl, by dsimp only; rw [Int.natCast_add, Int.natCast_mul]; rfl, rfl, trivial⟩ ⟨⟨by dsimp only; omega, hm3, (hstep.trans (if_neg (by cases second <;> simp at * <;> omega))).symm⟩, rfl⟩ (by dsimp only; omega)
        · refine Of ?_
          refine Pf ?_
          refine Mv ?_
          refine Of ?_
          refine Of ?_
          refine Pf ?_
          refine Mv ?_
          refine On ?_
          refine Mv ?_
          refine On ?_
          refine Ve ?_
          refine On ?_
          refine Mv ?_
          refine FL_splitP (t := 39) rfl (fun hs147 => ?_) (fun hs147 => ?_)
          · refine On ?_
            refine Mv ?_
            refine On ?_
            refine Mv ?_
            refine On ?_
            refine FL_val (Gives.geq rfl rfl) rfl ?_
            refine On ?_
            refine Mv ?_
            refine FL_splitP (t := 43) rfl (fun hs152 => ?_) (fun hs152 => ?_)
            · refine On ?_
              refine Mv ?_
              refine On ?_
              refine FL_val (Gives.leq rfl rfl) rfl ?_
              refine On ?_
              refine Pt ?_
              refine On ?_
              refine FL_val (Gives.neqB rfl rfl) rfl ?_
              refine On ?_
              refine Pt ?_
              refine Pf ?_
              refine Qn ?_
              refine FW_cond rfl (fun hc159 => ?_) (fun hc159 => ?_)
              · refine Sr ?_
                refine Am ?_
                refine Am ?_
                refine Qn ?_
                refine Rb (Qround_ret (Qblk_ret (Qseq_ret (Qfn_ret (hR := ?_)))))
                exact ⟨by rw [hstep, if_pos (by cases second <;> simp at * <;> omega)]; rfl, rfl⟩
              · refine FW_skip (Qblk_normal (Qseq_normal ?_))
                refine FW_region ?_
                refine Mv ?_
                refine FL_val (Gives.addI rfl rfl rfl (by omega)) rfl ?_
                refine Am ?_
                refine FL_nil ?_
                exact Qround_normal (i + 1, 16 * m + d) ⟨rfl, rfl, by dsimp only; rw [Int.natCast_add, Int.natCast_mul]; rfl, rfl, trivial⟩ ⟨⟨by dsimp only; omega, hm3, (hstep.trans (if_neg (by cases second <;> simp at * <;> omega))).symm⟩, rfl⟩ (by dsimp only; omega)
            · refine Of ?_
              refine Of ?_
              refine On ?_
              refine Pf ?_
              refine On ?_
              refine FL_val (Gives.neqB rfl rfl) rfl ?_
              refine On ?_
              refine Pt ?_
              refine Pf ?_
              refine Qn ?_
              refine FW_cond rfl (fun hc171 => ?_) (fun hc171 => ?_)
              · refine Sr ?_
                refine Am ?_
                refine Am ?_
                refine Qn ?_
                refine Rb (Qround_ret (Qblk_ret (Qseq_ret (Qfn_ret (hR := ?_)))))
                exact ⟨by rw [hstep, if_pos (by cases second <;> simp at * <;> omega)]; rfl, rfl⟩
              · refine FW_skip (Qblk_normal (Qseq_normal ?_))
                refine FW_region ?_
                refine Mv ?_
                refine FL_val (Gives.addI rfl rfl rfl (by omega)) rfl ?_
                refine Am ?_
                refine FL_nil ?_
                exact Qround_normal (i + 1, 16 * m + d) ⟨rfl, rfl, by dsimp only; rw [Int.natCast_add, Int.natCast_mul]; rfl, rfl, trivial⟩ ⟨⟨by dsimp only; omega, hm3, (hstep.trans (if_neg (by cases second <;> simp at * <;> omega))).symm⟩, rfl⟩ (by dsimp only; omega)
          · refine Of ?_
            refine Of ?_
            refine Of ?_
            refine Of ?_
            refine Ou ?_
            refine Ou ?_
            refine Of ?_
            refine Of ?_
            refine On ?_
            refine Pf ?_
            refine Pf ?_
            refine Qn ?_
            refine FW_cond_false rfl ?_
            refine FW_skip (Qblk_normal (Qseq_normal ?_))
            refine FW_region ?_
            refine Mv ?_
            refine FL_val (Gives.addI rfl rfl rfl (by omega)) rfl ?_
            refine Am ?_
            refine FL_nil ?_
            exact Qround_normal (i + 1, 16 * m + d) ⟨rfl, rfl, by dsimp only; rw [Int.natCast_add, Int.natCast_mul]; rfl, rfl, trivial⟩ ⟨⟨by dsimp only; omega, hm3, (hstep.trans (if_neg (by cases second <;> simp at * <;> omega))).symm⟩, rfl⟩ (by dsimp only; omega)
  · have h4 : i = 4 := by omega
    subst h4
    have hfin : (m, (0 : Int)) = res := hr
    refine FW_exit (Qseq_exit (Qround_exit (Qblk_exit (Qseq_normal ?_))))
    refine Sr ?_
    refine Mv ?_
    refine Am ?_
    refine Am ?_
    refine Qn ?_
    refine FW_ret (Qfn_ret (hR := ?_))
    exact ⟨by rw [← hfin]; rfl, rfl⟩
end
end Go.Proofs.YtmkaahkbhdlniaaGreatDoor
/-
 The document's literals, walked: Quote, Unquote.
-/
namespace Go.Proofs.YtmkaahkbhdlniaaGreatDoor
open Go Go.Mw Go.Lib
set_option maxRecDepth 4000

theorem quoteB_nat (c : UInt8) : quoteB c = if c.toNat = 34 then [92, 34] else if c.toNat = 92 then [92, 92] else if c.toNat = 8 then [92, 98] else if c.toNat = 12 then [92, 102] else if c.toNat = 10 then [92, 110] else if c.toNat = 13 then [92, 114] else if c.toNat = 9 then [92, 116]
    else if c.toNat < 32 then [92, 117, 48, 48, hexB (c.toNat / 16), hexB (c.toNat % 16)] else [c] := by
  have e : ∀ k : UInt8, (c = k) = (c.toNat = k.toNat) := fun k => propext UInt8.toNat_inj.symm
  have e2 : (c < 32) = (c.toNat < 32) := propext UInt8.lt_iff_toNat_lt
  unfold quoteB
  simp only [e, e2]
  rfl
theorem quoteB_two {c : UInt8} (h : c.toNat = 34 ∨ c.toNat = 92) : quoteB c = [92, c] := by
 rcases h with h | h
 ·have : c = 34 := UInt8.toNat_inj.1 h
  subst this; rfl
 ·have : c = 92 := UInt8.toNat_inj.1 h
  subst this; rfl
theorem len_quoteB (c : UInt8) : (quoteB c).length ≤ 6 := by
 unfold quoteB
 repeat' split
 all_goals simp
theorem hexB_at {n : Nat} (h : n < 16) : digS.getD n 0 = hexB n := by
 have key : ∀ i : Fin 16, digS.getD i.val 0 = hexB i.val := by decide
 exact key ⟨n, h⟩
def outQ (l : List UInt8) (i : Nat) : List UInt8 := 34 :: (l.take i).flatMap quoteB
theorem outQ_len (l : List UInt8) (i : Nat) : (outQ l i).length ≤ 6 * i + 1 := by
 have h := len_flat len_quoteB (l.take i)
 have h2 : (l.take i).length ≤ i := by rw [List.length_take]; omega
 unfold outQ
 simp only [List.length_cons]
 omega
theorem outQ_succ {l : List UInt8} {i : Nat} (h : i < l.length) : outQ l (i + 1) = outQ l i ++ quoteB (l.getD i 0) := by
 unfold outQ
 rw [List.take_add_one, List.getElem?_eq_getElem h, List.flatMap_append]
 simp [List.getD_eq_getElem?_getD, List.getElem?_eq_getElem h]
section
variable {w : World} {l : List UInt8}
def quoteP (l : List UInt8) : List UInt8 × Int := if validD l = true then (quoteL l, 0) else ([], 40)
theorem quote_ok4 (l : List UInt8) (hl : l.length ≤ 1000000) : Rets Tryz.prog 137 [str l] w fun v w' => v = .tuple #[str (quoteP l).1, I (quoteP l).2] ∧ Kept noB w w' := by
 have H := Sep.start0 w
 refine rets1 Tryz.func137 rfl rfl rfl rfl ?_
 refine Sr ?_
 refine Am ?_
 refine Am ?_
 refine Qn ?_
 refine FW_seq ?_
 refine Sr ?_
 refine Mv ?_
 refine FL_callQ H (valid_ok4 l (by omega)) (h := fun w5 H5 _ => ?_)
 refine FL_val (Gives.not rfl) rfl ?_
 refine Qn ?_
 refine FW_cond rfl (fun hc7 => ?_) (fun hc7 => ?_)
 ·have hq : quoteP l = ([], 40) := if_neg (by simpa using hc7)
  refine Sr ?_
  refine Am ?_
  refine Am ?_
  refine Qn ?_
  refine Rs (Qfn_ret (hR := ?_))
  exact ⟨by rw [hq]; rfl, H5.kept⟩
 ·have hv : validD l = true := by simpa using hc7
  refine Sk ?_
  refine Sr ?_
  refine FL_buildSlice H5 (xs := [_]) (out := [34].map B) (Elems.one rfl rfl Elems.nil) rfl rfl rfl (fun b w14 H14 _ => ?_)
  refine Am ?_
  refine Qn ?_
  refine FW_seq ?_
  refine Sr ?_
  refine Am ?_
  refine Qn ?_
  refine FW_block ?_
  have H18 := Sep.asBytes H14 At0 (by decide)
  refine FW_loop' (fun x : Nat × Value => [(0, str l), (4, x.2), (5, I x.1)]) (fun x w' => x.1 ≤ l.length ∧ Sep w noB [bytesH 5 x.2 (outQ l x.1)] w') (fun x _ => l.length - x.1) (0, _) ⟨rfl, rfl, rfl, trivial⟩ ⟨Nat.zero_le _, H18⟩ (fun x τ w18 hI => ?_)
  obtain ⟨i, v1⟩ := x
  obtain ⟨hi, H18⟩ := hI
  dsimp only at hi H18
  try simp only [upds, like, upd_ds, und_ds]
  refine FW_seq ?_
  refine Sr ?_
  refine Mv ?_
  refine Mv ?_
  refine Vt ?_
  refine Vl ?_
  refine Qn ?_
  refine FW_condP rfl (fun hc23 => ?_) (fun hc23 => ?_)
  ·have hlt : i < l.length := by omega
   obtain ⟨c, hc⟩ : ∃ c, c = l.getD i 0 := ⟨_, rfl⟩
   have hsu := outQ_succ hlt
   have hol := outQ_len l i
   rw [← hc] at hsu
   have hcl := c.toNat_lt
   refine Sk ?_
   refine FW_cut (fun v : Value => [(0, str l), (4, v), (5, I i)]) (fun v w' => Sep w noB [bytesH 5 v (outQ l i ++ quoteB c)] w') ?_ ?_
   ·refine FW_block ?_
    refine Sr ?_
    refine Mv ?_
    refine Mv ?_
    refine FL_val (Gives.idxD rfl rfl hlt) rfl ?_
    rw [← hc]
    refine Am ?_
    refine Qn ?_
    refine FW_block ?_
    refine Sr ?_
    refine Mv ?_
    refine Ve ?_
    refine Mv ?_
    refine FL_splitP (t := 27) rfl (fun hs33 => ?_) (fun hs33 => ?_)
    ·have hq : quoteB c = [92, c] := quoteB_two (by omega)
     refine Of ?_
     refine Of ?_
     refine Pt ?_
     refine Am ?_
     refine Qn ?_
     refine FW_cond_true rfl ?_
     refine FW_region ?_
     refine Mv ?_
     refine Mv ?_
     refine FL_buildSlice H18 (xs := [_, .tmp 32]) (out := [92, c].map B) (Elems.one rfl rfl (Elems.one rfl rfl Elems.nil)) rfl rfl rfl (fun b w40 H40 _ => ?_)
     refine FL_appendB H40 (news := [92, c]) At0 (by simp; omega) (h := fun v2 w42 H42 => ?_)
     refine Am ?_
     refine FL_nil (Qblk_normal (Qblk_normal ?_))
     exact Qcut_normal _ ⟨rfl, rfl, rfl, trivial⟩ (by rw [hq]; exact H42)
    ·refine On ?_
     refine Mv ?_
     refine On ?_
     refine Ve ?_
     refine Pf ?_
     refine Am ?_
     refine Qn ?_
     refine FW_condP rfl (fun hc49 => ?_) (fun hc49 => ?_)
     ·have hq : quoteB c = [92, c] := quoteB_two (by omega)
      refine FW_region ?_
      refine Mv ?_
      refine Mv ?_
      refine FL_buildSlice H18 (xs := [_, .tmp 32]) (out := [92, c].map B) (Elems.one rfl rfl (Elems.one rfl rfl Elems.nil)) rfl rfl rfl (fun b w54 H54 _ => ?_)
      refine FL_appendB H54 (news := [92, c]) At0 (by simp; omega) (h := fun v2 w56 H56 => ?_)
      refine Am ?_
      refine FL_nil (Qblk_normal (Qblk_normal ?_))
      exact Qcut_normal _ ⟨rfl, rfl, rfl, trivial⟩ (by rw [hq]; exact H56)
     ·refine Sr ?_
      refine Mv ?_
      refine Ve ?_
      refine Am ?_
      refine Qn ?_
      refine FW_condP rfl (fun hc62 => ?_) (fun hc62 => ?_)
      ·have hq : quoteB c = [92, 98] := by rw [quoteB_nat, if_neg (by omega), if_neg (by omega), if_pos (by omega)]
       refine FW_region ?_
       refine Mv ?_
       refine FL_buildSlice H18 (xs := [_, _]) (out := [92, 98].map B) (Elems.one rfl rfl (Elems.one rfl rfl Elems.nil)) rfl rfl rfl (fun b w66 H66 _ => ?_)
       refine FL_appendB H66 (news := [92, 98]) At0 (by simp; omega) (h := fun v2 w68 H68 => ?_)
       refine Am ?_
       refine FL_nil (Qblk_normal (Qblk_normal ?_))
       exact Qcut_normal _ ⟨rfl, rfl, rfl, trivial⟩ (by rw [hq]; exact H68)
      ·refine Sr ?_
       refine Mv ?_
       refine Ve ?_
       refine Am ?_
       refine Qn ?_
       refine FW_condP rfl (fun hc74 => ?_) (fun hc74 => ?_)
       ·have hq : quoteB c = [92, 102] := by rw [quoteB_nat, if_neg (by omega), if_neg (by omega), if_neg (by omega), if_pos (by omega)]
        refine FW_region ?_
        refine Mv ?_
        refine FL_buildSlice H18 (xs := [_, _]) (out := [92, 102].map B) (Elems.one rfl rfl (Elems.one rfl rfl Elems.nil)) rfl rfl rfl (fun b w78 H78 _ => ?_)
        refine FL_appendB H78 (news := [92, 102]) At0 (by simp; omega) (h := fun v2 w80 H80 => ?_)
        refine Am ?_
        refine FL_nil (Qblk_normal (Qblk_normal ?_))
        exact Qcut_normal _ ⟨rfl, rfl, rfl, trivial⟩ (by rw [hq]; exact H80)
       ·refine Sr ?_
        refine Mv ?_
        refine Ve ?_
        refine Am ?_
        refine Qn ?_
        refine FW_condP rfl (fun hc86 => ?_) (fun hc86 => ?_)
        ·have hq : quoteB c = [92, 110] := by rw [quoteB_nat, if_neg (by omega), if_neg (by omega), if_neg (by omega), if_neg (by omega), if_pos (by omega)]
         refine FW_region ?_
         refine Mv ?_
         refine FL_buildSlice H18 (xs := [_, _]) (out := [92, 110].map B) (Elems.one rfl rfl (Elems.one rfl rfl Elems.nil)) rfl rfl rfl (fun b w90 H90 _ => ?_)
         refine FL_appendB H90 (news := [92, 110]) At0 (by simp; omega) (h := fun v2 w92 H92 => ?_)
         refine Am ?_
         refine FL_nil (Qblk_normal (Qblk_normal ?_))
         exact Qcut_normal _ ⟨rfl, rfl, rfl, trivial⟩ (by rw [hq]; exact H92)
        ·refine Sr ?_
         refine Mv ?_
         refine Ve ?_
         refine Am ?_
         refine Qn ?_
         refine FW_condP rfl (fun hc98 => ?_) (fun hc98 => ?_)
         ·have hq : quoteB c = [92, 114] := by rw [quoteB_nat, if_neg (by omega), if_neg (by omega), if_neg (by omega), if_neg (by omega), if_neg (by omega), if_pos (by omega)]
          refine FW_region ?_
          refine Mv ?_
          refine FL_buildSlice H18 (xs := [_, _]) (out := [92, 114].map B) (Elems.one rfl rfl (Elems.one rfl rfl Elems.nil)) rfl rfl rfl (fun b w102 H102 _ => ?_)
          refine FL_appendB H102 (news := [92, 114]) At0 (by simp; omega) (h := fun v2 w104 H104 => ?_)
          refine Am ?_
          refine FL_nil (Qblk_normal (Qblk_normal ?_))
          exact Qcut_normal _ ⟨rfl, rfl, rfl, trivial⟩ (by rw [hq]; exact H104)
         ·refine Sr ?_
          refine Mv ?_
          refine Ve ?_
          refine Am ?_
          refine Qn ?_
          refine FW_condP rfl (fun hc110 => ?_) (fun hc110 => ?_)
          ·have hq : quoteB c = [92, 116] := by rw [quoteB_nat, if_neg (by omega), if_neg (by omega), if_neg (by omega), if_neg (by omega), if_neg (by omega), if_neg (by omega), if_pos (by omega)]
           refine FW_region ?_
           refine Mv ?_
           refine FL_buildSlice H18 (xs := [_, _]) (out := [92, 116].map B) (Elems.one rfl rfl (Elems.one rfl rfl Elems.nil)) rfl rfl rfl (fun b w114 H114 _ => ?_)
           refine FL_appendB H114 (news := [92, 116]) At0 (by simp; omega) (h := fun v2 w116 H116 => ?_)
           refine Am ?_
           refine FL_nil (Qblk_normal (Qblk_normal ?_))
           exact Qcut_normal _ ⟨rfl, rfl, rfl, trivial⟩ (by rw [hq]; exact H116)
          ·refine Sr ?_
           refine Mv ?_
           refine Vl ?_
           refine Am ?_
           refine Qn ?_
           refine FW_condP rfl (fun hc122 => ?_) (fun hc122 => ?_)
           ·have hq : quoteB c = [92, 117, 48, 48, digS.getD (c.toNat / 16) 0, digS.getD (c.toNat % 16) 0] := by rw [quoteB_nat, if_neg (by omega), if_neg (by omega), if_neg (by omega), if_neg (by omega), if_neg (by omega), if_neg (by omega), if_neg (by omega), if_pos (by omega), hexB_at (by omega), hexB_at (by omega)]
            refine FW_drawS rfl H18 (h := fun hok124 w126 H126 => ?_)
            refine FGmove hok124 0 (h := ?_)
            refine FGmove hok124 1 (h := ?_)
            refine FGp hok124 2 rfl rfl (fun _ => (Gives.quo8 (b := 16) rfl rfl (by omega) (by omega))) (by kernel_rfl) ?_
            refine FGp hok124 3 rfl rfl (fun _ => (Gives.idxD (l := digS) rfl rfl (show c.toNat / 16 < 16 by omega))) (by kernel_rfl) ?_
            refine FGmove hok124 4 (h := ?_)
            refine FGp hok124 5 rfl rfl (fun _ => (Gives.remN (b := 16) rfl rfl (by omega))) (by kernel_rfl) ?_
            refine FGp hok124 6 rfl rfl (fun _ => (Gives.idxD (l := digS) rfl rfl (show c.toNat % 16 < 16 by omega))) (by kernel_rfl) ?_
            refine FGbuildSlice hok124 7 [(0, true)] H126 (xs := [_, _, _, _, .tmp 71, .tmp 74]) (out := [92, 117, 48, 48, digS.getD (c.toNat / 16) 0, digS.getD (c.toNat % 16) 0].map B) (Elems.one rfl rfl (Elems.one rfl rfl (Elems.one rfl rfl (Elems.one rfl rfl (Elems.one rfl rfl (Elems.one rfl rfl Elems.nil)))))) (h := fun b w132 H132 => ⟨Stab_pure (Stab_nil), ?_⟩)
            refine FGappendB hok124 8 [] H132 (news := [92, 117, 48, 48, digS.getD (c.toNat / 16) 0, digS.getD (c.toNat % 16) 0]) At0 (by simp; omega) (h := fun v2 w134 H134 => ⟨Stab_nil, ?_⟩)
            refine FGset hok124 9 [] (h := ⟨Stab_nil, ?_⟩)
            refine FG_end hok124 (by kernel_rfl) ?_
            refine Qblk_normal (Qblk_normal ?_)
            exact Qcut_normal _ ⟨rfl, rfl, rfl, trivial⟩ (by rw [hq]; exact H134)
           ·have hq : quoteB c = [c] := by rw [quoteB_nat, if_neg (by omega), if_neg (by omega), if_neg (by omega), if_neg (by omega), if_neg (by omega), if_neg (by omega), if_neg (by omega), if_neg (by omega)]
            refine FW_region ?_
            refine Mv ?_
            refine Mv ?_
            refine FL_buildSlice H18 (xs := [.tmp 21]) (out := [c].map B) (Elems.one rfl rfl Elems.nil) rfl rfl rfl (fun b w141 H141 _ => ?_)
            refine FL_appendB H141 (news := [c]) At0 (by simp; omega) (h := fun v2 w143 H143 => ?_)
            refine Am ?_
            refine FL_nil (Qblk_normal (Qblk_normal ?_))
            exact Qcut_normal _ ⟨rfl, rfl, rfl, trivial⟩ (by rw [hq]; exact H143)
   ·intro v3 τ w147 H147
    simp only [upds, like, upd_ds]
    refine FW_region ?_
    refine Mv ?_
    refine FL_val (Gives.addI rfl rfl rfl (by omega)) rfl ?_
    refine Am ?_
    refine FL_nil ?_
    exact Qround_normal (i + 1, v3) ⟨rfl, rfl, rfl, trivial⟩ ⟨by dsimp only; omega, by dsimp only; rw [hsu]; exact H147⟩ (by dsimp only; omega)
  ·have hil : i = l.length := by omega
   refine FW_exit (Qseq_exit (Qround_exit (Qblk_exit (Qseq_normal ?_))))
   refine Sr ?_
   refine Mv ?_
   refine FL_buildSlice H18 (xs := [_]) (out := [34].map B) (Elems.one rfl rfl Elems.nil) rfl rfl rfl (fun b2 w155 H155 _ => ?_)
   have hol := outQ_len l i
   refine FL_appendB H155 (news := [34]) At0 (by simp; omega) (h := fun v2 w157 H157 => ?_)
   refine FL_val (Gives.bytesO H157 At0 rfl) rfl ?_
   have hfin : outQ l i ++ [34] = quoteL l := by
    rw [hil]; unfold outQ quoteL; rw [List.take_length]; rfl
   rw [hfin]
   have hq : quoteP l = (quoteL l, 0) := if_pos hv
   refine Am ?_
   refine Am ?_
   refine Qn ?_
   refine FW_ret (Qfn_ret (hR := ?_))
   exact ⟨by rw [hq]; rfl, H157.kept⟩
end
end Go.Proofs.YtmkaahkbhdlniaaGreatDoor
