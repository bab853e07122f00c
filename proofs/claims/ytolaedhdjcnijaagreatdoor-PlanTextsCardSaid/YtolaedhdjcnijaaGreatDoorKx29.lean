/-
 Lines of a plan's text, as the document reads them, walked.
-/
import Derived.Test.YtolaedhdjcnijaaGreatDoorKx27
import Derived.Test.YtolaedhdjcnijaaGreatDoorKx28
set_option linter.unusedVariables false
set_option linter.unusedSimpArgs false
namespace Go.Proofs.YtolaedhdjcnijaaGreatDoor
open Go Go.Mw Go.Lib
set_option maxRecDepth 4000
theorem getD_app0 {l m : List UInt8} (h : 0 < l.length) : (l ++ m).getD 0 0 = l.getD 0 0 := by
 cases l with
 | nil => exact absurd h (by decide)
 | cons a l => rfl
theorem dec_head : ∀ (n : Nat), 0 < n → (decDigits n).getD 0 0 ≠ 48 := by
 intro n
 induction n using Nat.strongRecOn with
 | _ n ih =>
 intro h
 by_cases hlt : n < 10
 ·rw [decDigits_one hlt]
  show UInt8.ofNat (48 + n) ≠ 48
  intro e
  have := congrArg UInt8.toNat e
  simp only [UInt8.toNat_ofNat'] at this
  have h48 : (48 : UInt8).toNat = 48 := rfl
  omega
 rw [decDigits, dif_neg hlt, getD_app0 (List.length_pos_iff.2 (decDigits_ne _))]
 exact ih (n / 10) (by omega) (by omega)
theorem dec_canon : ∀ (k : Nat) (s : List UInt8) (n : Nat), s.length = k → digitsD s 0 = some n → s ≠ [] → (s.length = 1 ∨ s.getD 0 0 ≠ 48) → decDigits n = s
 | 0, s, n, hk, _, hne, _ => absurd (List.eq_nil_of_length_eq_zero hk) hne
 | k + 1, s, n, hk, h, hne, hl => by
  obtain ⟨m, x, rfl⟩ := snoc_of hne
  rw [digitsD_app] at h
  obtain ⟨a, ha, hx⟩ := Option.bind_eq_some_iff.1 h
  simp only [digitsD] at hx
  split at hx
  ·rename_i hd
   injection hx with hx
   have hd' : 48 ≤ x.toNat ∧ x.toNat ≤ 57 := of_decide_eq_true hd
   by_cases hm : m = []
   ·subst hm
    simp only [digitsD] at ha
    injection ha with ha
    subst ha
    rw [decDigits_one (by omega)]
    show [_] = [x]
    rw [← UInt8.toNat_inj.1 (show (UInt8.ofNat (48 + n)).toNat = x.toNat by simp only [UInt8.toNat_ofNat']; omega)]
   have hm1 : 0 < m.length := List.length_pos_iff.2 hm
   have hlen : (m ++ [x]).length = m.length + 1 := by simp
   have hl2 : m.getD 0 0 ≠ 48 := by
    rcases hl with e | e
    ·omega
    rw [getD_app0 hm1] at e; exact e
   have hd2 := dec_canon k m a (by omega) ha hm (.inr hl2)
   have ha0 : 0 < a := by
    rcases Nat.eq_zero_or_pos a with e | e
    ·rw [e] at hd2
     rw [← hd2] at hl2
     exact absurd (by rw [decDigits_one (by decide)]; rfl) hl2
    exact e
   rw [decDigits, dif_neg (by omega), show n / 10 = a by omega, hd2, show n % 10 = x.toNat - 48 by omega]
   rw [UInt8.toNat_inj.1 (show (UInt8.ofNat (48 + (x.toNat - 48))).toNat = x.toNat by simp only [UInt8.toNat_ofNat']; omega)]
  cases hx
theorem groupN_eq (s : List UInt8) : groupN s = match digitsD s 0 with | none => none | some n => if decDigits n = s ∧ n ≤ 1048576 then some n else none := by
 unfold groupN
 cases digitsD s 0 <;> rfl
theorem group_empty {s : List UInt8} (h : s.length < 1) : groupN s = none := by
 rw [List.eq_nil_of_length_eq_zero (by omega : s.length = 0), groupN_eq]
 show (if decDigits 0 = [] ∧ 0 ≤ 1048576 then some 0 else none) = none
 rw [if_neg fun h => decDigits_ne 0 h.1]
theorem group_lead {s : List UInt8} (h1 : 1 < s.length) (h : s.getD 0 0 = 48) : groupN s = none := by
 rw [groupN_eq]
 cases hd : digitsD s 0 with
 | none => rfl
 | some n =>
  dsimp only
  rw [if_neg]
  intro ⟨e, _⟩
  rcases Nat.eq_zero_or_pos n with e0 | e0
  ·rw [e0, decDigits_one (by decide)] at e
   rw [← e] at h1
   exact absurd h1 (by decide)
  have := dec_head n e0
  rw [e] at this
  exact this h
theorem group_more {s : List UInt8} {i acc : Nat} (hst : digitsD (s.drop i) acc = digitsD s 0) (h : 1048576 < acc) : groupN s = none := by
 rw [groupN_eq]
 cases hd : digitsD s 0 with
 | none => rfl
 | some n =>
  rw [hd] at hst
  have := digitsD_le _ _ _ hst
  dsimp only
  rw [if_neg fun h => by omega]
theorem cut_app : ∀ {a b : List UInt8}, (∀ c ∈ a, c ≠ 32) → (a ++ 32 :: b).idxOf? 32 = some a.length
 | [], b, _ => by rw [List.nil_append, List.idxOf?_cons]; rfl
 | x :: a, b, h => by
  rw [List.cons_append, List.idxOf?_cons, cut_app fun c hc => h c (List.mem_cons_of_mem _ hc)]
  have hx : (x == 32) = false := beq_eq_false_iff_ne.2 (h x List.mem_cons_self)
  rw [hx]
  rfl
theorem cut_at {t : List UInt8} {i : Nat} (h : ∀ c ∈ t.take i, c ≠ 32) (hi : t[i]? = some 32) : cutL t = some (t.take i, t.drop (i + 1)) := by
 have hlt := (List.getElem?_eq_some_iff.1 hi).1
 have e : t = t.take i ++ 32 :: t.drop (i + 1) := by
  have h1 := List.drop_eq_getElem_cons hlt
  rw [(List.getElem?_eq_some_iff.1 hi).2] at h1
  rw [← h1, List.take_append_drop]
 have h2 := cut_app (b := t.drop (i + 1)) h
 rw [← e, List.length_take, Nat.min_eq_left (by omega)] at h2
 unfold cutL
 rw [h2]
 rfl
theorem cut_not {t : List UInt8} (h : ∀ c ∈ t, c ≠ 32) : cutL t = none := by
 unfold cutL
 rw [List.idxOf?_eq_none_iff.2 fun hm => h 32 hm rfl]
 rfl
theorem drop_at {s : List UInt8} {f i : Nat} {c : UInt8} (hf : f ≤ i) (hc : s[i]? = some c) : s.drop f = (s.take i).drop f ++ c :: s.drop (i + 1) := by
 have hlt := (List.getElem?_eq_some_iff.1 hc).1
 have h1 := List.drop_eq_getElem_cons hlt
 rw [(List.getElem?_eq_some_iff.1 hc).2] at h1
 rw [← h1]
 conv => lhs; rw [← List.take_append_drop i s]
 rw [List.drop_append_of_le_length (by rw [List.length_take]; omega)]
theorem piece_next {s : List UInt8} {f i : Nat} {c : UInt8} (hf : f ≤ i) (hc : s[i]? = some c) : (s.take (i + 1)).drop f = (s.take i).drop f ++ [c] := by
 have hlt := (List.getElem?_eq_some_iff.1 hc).1
 rw [List.take_add_one, hc, Option.toList_some, List.drop_append_of_le_length (by rw [List.length_take]; omega)]
section
variable {w : World}
theorem number_ok11 (s : List UInt8) (hl : s.length ≤ 1000000) : Rets Tryz.prog 96 [str s, I 1048576] w fun v w' => v = I (match groupN s with | some n => ((n : Nat) : Int) | none => -1) ∧ Kept noB w w' := by
 have H := Sep.start0 w
 refine rets2 Tryz.func96 rfl rfl rfl rfl ?_
 refine Sr (Am ?_)
 refine Qn (FW_cut (fun _ : Unit => [(0, str s), (1, I 1048576)]) (fun _ w' => (1 ≤ s.length ∧ (s.length = 1 ∨ s.getD 0 0 ≠ 48)) ∧ Sep w noB [] w') ?_ ?_)
 ·refine Sr (Mv ?_)
  refine Vt ?_
  refine Vl ?_
  refine Mv ?_
  refine FL_splitP (t := 10) rfl (fun hs7 => ?_) (fun hs7 => ?_)
  ·have hres := group_empty (s := s) (by omega)
   refine Of (Of (Of (Of (Ou (Ou (Ou (Of (Pt ?_))))))))
   refine Qn (FW_cond_true rfl ?_)
   refine Sr (Am ?_)
   refine Qn (FW_ret (Qcut_ret (Qfn_ret (hR := ?_))))
   exact ⟨by rw [hres]; rfl, H.kept⟩
  refine On (Mv ?_)
  refine On (Vt ?_)
  refine On (Vg ?_)
  refine On (Mv ?_)
  refine FL_splitP (t := 14) rfl (fun hs16 => ?_) (fun hs16 => ?_)
  ·refine On (Mv ?_)
   refine On (Vv (Gives.idxD (i := 0) rfl rfl (by omega)) (On ?_))
   refine Ve ?_
   refine On (Pt ?_)
   refine Pf ?_
   refine Qn (Cp rfl (fun hc22 => ?_) (fun hc22 => ?_))
   ·have hres := group_lead (s := s) (by omega) (UInt8.toNat_inj.1 (show (s.getD 0 0).toNat = 48 by omega))
    refine Sr (Am ?_)
    refine Qn (FW_ret (Qcut_ret (Qfn_ret (hR := ?_))))
    exact ⟨by rw [hres]; rfl, H.kept⟩
   have hlead : s.length = 1 ∨ s.getD 0 0 ≠ 48 := .inr fun e => hc22 (by rw [e]; rfl)
   refine FW_skip ?_
   exact Qcut_normal () ⟨rfl, rfl, trivial⟩ ⟨⟨by omega, hlead⟩, H⟩
  have hlead : s.length = 1 ∨ s.getD 0 0 ≠ 48 := .inl (by omega)
  refine Of (Of (Of (On (Pf ?_))))
  refine Pf ?_
  refine Qn (FW_cond_false rfl ?_)
  refine FW_skip ?_
  exact Qcut_normal () ⟨rfl, rfl, trivial⟩ ⟨⟨by omega, hlead⟩, H⟩
 rintro _ τ w33 ⟨⟨h1, hlead⟩, H33⟩
 simp only [upds, like, upd_ds, und_ds]
 refine Sr (Am ?_)
 refine Qn (FW_seq (Sr (Am ?_)))
 refine Qn (FW_block (FW_loop' (fun x : Nat × Nat => [(0, str s), (1, I 1048576), (5, I x.2), (6, I x.1)]) (fun x w' => (x.1 ≤ s.length ∧ x.2 ≤ 1048576 ∧ digitsD (s.drop x.1) x.2 = digitsD s 0) ∧ Sep w noB [] w') (fun x _ => s.length - x.1) (0, 0) ⟨rfl, rfl, rfl, rfl, trivial⟩ ⟨⟨Nat.zero_le _, by decide, rfl⟩, H33⟩ (fun x τ w37 hI => ?_)))
 obtain ⟨i, acc⟩ := x
 obtain ⟨⟨hi, hacc, hst⟩, H37⟩ := hI
 dsimp only at hi hacc hst
 try simp only [upds, like, upd_ds]
 refine FW_seq (Sr (Mv ?_))
 refine Mv ?_
 refine Vt ?_
 refine Vl ?_
 refine Qn (Cp rfl (fun hc42 => ?_) (fun hc42 => ?_))
 ·have hlt : i < s.length := by omega
  obtain ⟨c, hc⟩ : ∃ c, c = s.getD i 0 := ⟨_, rfl⟩
  have hcl := c.toNat_lt
  have hst0 := hst
  rw [drop_cons hlt, ← hc, digitsD] at hst
  refine Sk (FW_seq (FW_block (FW_seq (Sr (Mv ?_)))))
  refine Mv ?_
  refine Vv (Gives.idxD rfl rfl hlt) ?_
  rw [← hc]
  refine Vl ?_
  refine Mv ?_
  refine FL_splitP (t := 30) rfl (fun hs49 => ?_) (fun hs49 => ?_)
  ·have hd : ¬ isDig c = true := fun h => by have := of_decide_eq_true h; omega
   rw [if_neg hd] at hst
   have hres : groupN s = none := by rw [groupN_eq, ← hst]
   refine Of (Of (Of (Of (Pt ?_))))
   refine Mv ?_
   refine Of (Of (Of (Of (Of (Of (Of (Of (Of (Of (Pt ?_))))))))))
   refine Qn (FW_cond_true rfl ?_)
   refine Sr (Am ?_)
   refine Qn (Rs (Qblk_ret (Qseq_ret (Qround_ret (Qblk_ret (Qseq_ret (Qfn_ret (hR := ?_))))))))
   exact ⟨by rw [hres]; rfl, H37.kept⟩
  refine On (Mv ?_)
  refine On (Mv ?_)
  refine On (Vv (Gives.idxD rfl rfl hlt) ?_)
  rw [← hc]
  refine On (Vg ?_)
  refine Pf ?_
  refine Mv ?_
  refine FL_splitP (t := 36) rfl (fun hs62 => ?_) (fun hs62 => ?_)
  ·have hd : ¬ isDig c = true := fun h => by have := of_decide_eq_true h; omega
   rw [if_neg hd] at hst
   have hres : groupN s = none := by rw [groupN_eq, ← hst]
   refine Of (Of (Of (Of (Of (Of (Of (Of (Of (Of (Pt ?_))))))))))
   refine Qn (FW_cond_true rfl ?_)
   refine Sr (Am ?_)
   refine Qn (Rs (Qblk_ret (Qseq_ret (Qround_ret (Qblk_ret (Qseq_ret (Qfn_ret (hR := ?_))))))))
   exact ⟨by rw [hres]; rfl, H37.kept⟩
  have hd : isDig c = true := decide_eq_true (by omega)
  rw [if_pos hd] at hst
  have hst1 : digitsD (s.drop (i + 1)) (10 * acc + (c.toNat - 48)) = digitsD s 0 := hst
  refine On (Mv ?_)
  refine On (Mv ?_)
  refine On (Mv ?_)
  refine On (Mv ?_)
  refine On (Vv (Gives.idxD rfl rfl hlt) ?_)
  rw [← hc]
  refine On (Vv (Gives.subW (c := ((c.toNat - 48 : Nat) : Int)) rfl rfl (by rw [wrapB (by omega)]; omega)) ?_)
  refine On (Vv (Gives.convW (k := .i64) (c := ((c.toNat - 48 : Nat) : Int)) rfl (wrap64 (by omega))) (On ?_))
  refine Vv (Gives.subI (c := ((1048576 - (c.toNat - 48) : Nat) : Int)) rfl rfl (by omega) (by omega)) (On ?_)
  refine Vv (Gives.quoN (b := 10) rfl rfl (by omega) (by omega)) (On ?_)
  refine Vg ?_
  refine Pf ?_
  refine Qn (Cp rfl (fun hc79 => ?_) (fun hc79 => ?_))
  ·have hres := group_more hst1 (by omega)
   refine Sr (Am ?_)
   refine Qn (Rs (Qblk_ret (Qseq_ret (Qround_ret (Qblk_ret (Qseq_ret (Qfn_ret (hR := ?_))))))))
   exact ⟨by rw [hres]; rfl, H37.kept⟩
  refine Sk (FW_region (Mv ?_))
  refine Vv (Gives.mulI (c := ((10 * acc : Nat) : Int)) rfl rfl (by omega) (by omega)) (Mv ?_)
  refine Mv ?_
  refine Vv (Gives.idxD rfl rfl hlt) ?_
  rw [← hc]
  refine Vv (Gives.subW (c := ((c.toNat - 48 : Nat) : Int)) rfl rfl (by rw [wrapB (by omega)]; omega)) ?_
  refine Vv (Gives.convW (k := .i64) (c := ((c.toNat - 48 : Nat) : Int)) rfl (wrap64 (by omega))) (Vv (Gives.addI (c := ((10 * acc + (c.toNat - 48) : Nat) : Int)) rfl rfl (by omega) (by omega)) ?_)
  refine Am ?_
  refine FL_nil (Qblk_normal (Qseq_normal (FW_region (Mv ?_))))
  refine Vv (Gives.addI rfl rfl rfl (by omega)) (Am ?_)
  refine FL_nil ?_
  exact Qround_normal (i + 1, 10 * acc + (c.toNat - 48)) ⟨rfl, rfl, rfl, rfl, trivial⟩ ⟨⟨by dsimp only; omega, by dsimp only; omega, hst1⟩, H37⟩ (by dsimp only; omega)
 have hil : i = s.length := by omega
 rw [hil, List.drop_length, digitsD] at hst
 have hcan := dec_canon s.length s acc rfl hst.symm (fun e => by rw [e] at h1; exact absurd h1 (by decide)) hlead
 have hres : groupN s = some acc := by rw [groupN_eq, ← hst]; exact if_pos ⟨hcan, hacc⟩
 refine FW_exit (Qseq_exit (Qround_exit (Qblk_exit (Qseq_normal (Sr (Mv ?_))))))
 refine Am ?_
 refine Qn (FW_ret (Qfn_ret (hR := ?_)))
 exact ⟨by rw [hres]; rfl, H37.kept⟩
theorem ahead_ok23 (s b : List UInt8) : Rets Tryz.prog 94 [str s, str b] w fun v w' => v = .tuple #[str ((aheadL b s).getD []), .bool (aheadL b s).isSome] ∧ Kept noB w w' := by
 have H := Sep.start0 w
 refine rets2 Tryz.func94 rfl rfl rfl rfl ?_
 refine Sr (Am ?_)
 refine Am ?_
 refine Qn (FW_seq (Sr (Mv ?_)))
 refine Vt ?_
 refine Mv ?_
 refine Vt ?_
 refine Vl ?_
 refine Mv ?_
 refine FL_splitP (t := 11) rfl (fun hs9 => ?_) (fun hs9 => ?_)
 ·have hres : aheadL b s = none := if_neg fun e => by have := congrArg List.length e; rw [List.length_take] at this; omega
  refine Of (Of (Of (Of (Of (Of (Pt ?_))))))
  refine Qn (FW_cond_true rfl ?_)
  refine Sr (Am ?_)
  refine Am ?_
  refine Qn (Rs (Qfn_ret (hR := ?_)))
  exact ⟨by rw [hres]; rfl, H.kept⟩
 refine On (Mv ?_)
 refine On (Mv ?_)
 refine On (Vt ?_)
 refine On (Vv (Gives.sliceToT rfl rfl (by omega)) (On ?_))
 refine Mv ?_
 refine On (Vv (Gives.neqT rfl rfl) (Pf ?_))
 refine Qn (Cp rfl (fun hc22 => ?_) (fun hc22 => ?_))
 ·have hres : aheadL b s = none := if_neg hc22
  refine Sr (Am ?_)
  refine Am ?_
  refine Qn (Rs (Qfn_ret (hR := ?_)))
  exact ⟨by rw [hres]; rfl, H.kept⟩
 have hres : aheadL b s = some (s.drop b.length) := if_pos (Classical.not_not.1 hc22)
 refine Sk (Sr (Mv ?_))
 refine Mv ?_
 refine Vt ?_
 refine Vv (Gives.sliceFromT rfl rfl (by omega)) (Am ?_)
 refine Am ?_
 refine Qn (FW_ret (Qfn_ret (hR := ?_)))
 exact ⟨by rw [hres]; rfl, H.kept⟩
theorem group_ok23 (s : List UInt8) (hl : s.length ≤ 1000000) : Rets Tryz.prog 49 [str s] w fun v w' => (∃ n, v = .tuple #[I n, .bool (groupL s).isSome] ∧ ∀ g, groupL s = some g → n = g) ∧ Kept noB w w' := by
  have H := Sep.start0 w
  obtain ⟨ah, hah⟩ : ∃ ah, ah = aheadL groupW s := ⟨_, rfl⟩
  obtain ⟨t, ht⟩ : ∃ t, t = ah.getD [] := ⟨_, rfl⟩
  have htl : t.length ≤ 1000000 := by
    rw [ht, hah]
    unfold aheadL
    split
    · show (s.drop _).length ≤ _; rw [List.length_drop]; omega
    exact Nat.zero_le _
  have hsome : ah.isSome = true → groupL s = if t = noneW then some (-1) else (groupN t).map fun n : Nat => ((n : Nat) : Int) := fun h => by
    obtain ⟨u, hu⟩ := Option.isSome_iff_exists.1 h
    unfold groupL
    rw [← hah, hu, Option.bind_some, ht, hu]
    rfl
  have hnone : ah.isSome = false → groupL s = none := fun h => by
    rw [Option.isSome_eq_false_iff, Option.isNone_iff_eq_none] at h
    unfold groupL
    rw [← hah, h]
    rfl
  have ht0 : ah.isSome = false → t = [] := fun h => by
    rw [Option.isSome_eq_false_iff, Option.isNone_iff_eq_none] at h
    rw [ht, h]
    rfl
  refine rets1 Tryz.func49 rfl rfl rfl rfl ?_
  refine Sr (Am ?_)
  refine Am ?_
  refine Nx (Mv ?_)
  refine FL_callQ H (ahead_ok23 s groupW) (h := fun w5 H5 k4 => ?_)
  rw [← hah, ← ht]
  refine Mv ?_
  refine Vx ?_
  refine Vx ?_
  refine Am ?_
  refine Am ?_
  refine Qn (FW_seq (Sr (Mv ?_)))
  refine Vv (Gives.eqlT rfl rfl) (Qn ?_)
  refine Cp rfl (fun hc13 => ?_) (fun hc13 => ?_)
  · have his : ah.isSome = true := by
      cases h : ah.isSome with
      | true => rfl
      | false => rw [ht0 h] at hc13; exact absurd hc13 (by decide)
    have hres := hsome his
    rw [if_pos (show t = noneW from hc13)] at hres
    refine Sr (Mv ?_)
    refine Am ?_
    refine Am ?_
    refine Qn (Rs (Qfn_ret (hR := ?_)))
    exact ⟨⟨-1, by rw [hres]; show resPack [I (-1), .bool ah.isSome] = _; rw [his]; rfl, fun g h => by rw [hres] at h; injection h⟩, H5.kept⟩
  refine Sk (Sr (Mv ?_))
  refine FL_callQ H5 (number_ok11 t htl) (h := fun w21 H21 k20 => ?_)
  refine Am ?_
  refine Nx (Mv ?_)
  refine Mv ?_
  refine Mv ?_
  refine FL_split (t := 19) rfl (fun hs26 => ?_) (fun hs26 => ?_)
  · have hres := hsome hs26
    rw [if_neg (show ¬ t = noneW by assumption)] at hres
    refine On (Mv ?_)
    refine On (Vv (Gives.geq rfl rfl) (Pt ?_))
    refine Am ?_
    refine Am ?_
    refine Qn (FW_ret (Qfn_ret (hR := ?_)))
    first
    | exact ⟨⟨_, by rw [hres]; rfl, fun g h => by rw [hres] at h; cases h⟩, H21.kept⟩
    | (cases hg : groupN t with
       | none =>
         rw [hg] at hres
         exact ⟨⟨-1, by rw [hres]; rfl, fun g h => by rw [hres] at h; cases h⟩, H21.kept⟩
       | some n =>
         rw [hg] at hres
         refine ⟨⟨((n : Nat) : Int), ?_, fun g h => by rw [hres] at h; injection h⟩, H21.kept⟩
         rw [hres]
         exact congrArg (fun b => Value.tuple #[I n, .bool b]) (decide_eq_true (show (0 : Int) ≤ ((n : Nat) : Int) by omega)))
  have hres := hnone hs26
  refine Of (Of (Pf ?_))
  refine Am ?_
  refine Am ?_
  refine Qn (FW_ret (Qfn_ret (hR := ?_)))
  first
  | exact ⟨⟨_, by rw [hres]; rfl, fun g h => by rw [hres] at h; cases h⟩, H21.kept⟩
  | (cases hg : groupN t with
     | none =>
       rw [hg] at hres
       exact ⟨⟨-1, by rw [hres]; rfl, fun g h => by rw [hres] at h; cases h⟩, H21.kept⟩
     | some n =>
       rw [hg] at hres
       refine ⟨⟨((n : Nat) : Int), ?_, fun g h => by rw [hres] at h; injection h⟩, H21.kept⟩
       rw [hres]
       exact congrArg (fun b => Value.tuple #[I n, .bool b]) (decide_eq_true (show (0 : Int) ≤ ((n : Nat) : Int) by omega)))
theorem lines_ok23 (s : List UInt8) (hl : s.length ≤ 1000000) : Rets Tryz.prog 46 [str s] w fun v w' => ∃ x, v = .tuple #[x, .bool (linesL s).2] ∧ True ∧ Turn noB (rowD 9 1 textCells x (linesL s).1) w w' := by
 have H := Sep.start0 w
 refine rets1 Tryz.func46 rfl rfl rfl rfl ?_
 refine Sr (Am ?_)
 refine Am ?_
 refine Nx (Am ?_)
 refine Nx (Am ?_)
 refine Qn (FW_seq (Sr (Am ?_)))
 refine Qn (FW_block ?_)
 have H7 := Sep.nilD H 9 1 textCells
 refine FW_loop' (fun x : Nat × Nat × List (List UInt8) × Value => [(0, str s), (4, x.2.2.2), (5, I x.2.1), (6, I x.1)]) (fun x w' => (x.1 ≤ s.length ∧ x.2.1 ≤ x.1 ∧ x.2.2.1.length ≤ x.1 ∧ splitW 10 s = x.2.2.1 ++ splitW 10 (s.drop x.2.1) ∧ ∀ c ∈ (s.take x.1).drop x.2.1, c ≠ 10) ∧ Sep w noB [rowD 9 1 textCells x.2.2.2 x.2.2.1] w') (fun x _ => s.length - x.1) (0, 0, [], .slice none 0 0) ⟨rfl, rfl, rfl, rfl, trivial⟩ ⟨⟨Nat.zero_le _, Nat.le_refl _, Nat.le_refl _, rfl, fun c hc => by simp at hc⟩, H7⟩ (fun x τ w7 hI => ?_)
 obtain ⟨i, f, pre, v0⟩ := x
 obtain ⟨⟨hi, hf, hpl, hsp, hno⟩, H7⟩ := hI
 dsimp only at hi hf hpl hsp hno H7
 try simp only [upds, like, upd_ds, und_ds]
 refine FW_seq (Sr (Mv ?_))
 refine Mv ?_
 refine Vt ?_
 refine Vl ?_
 refine Qn (Cp rfl (fun hc12 => ?_) (fun hc12 => ?_))
 ·have hlt : i < s.length := by omega
  obtain ⟨c, hc⟩ := get_some hlt
  have hcd : s.getD i 0 = c := getD_of hc
  refine Sk (FW_seq (FW_block (Sr (Mv ?_))))
  refine Mv ?_
  refine Vv (Gives.idxD rfl rfl hlt) ?_
  rw [hcd]
  refine Ve ?_
  refine Qn (Cp rfl (fun hc18 => ?_) (fun hc18 => ?_))
  ·have hc10 : c = 10 := by rw [← UInt8.toNat_inj]; show c.toNat = 10; omega
   rw [hc10] at hc
   have hsp2 : splitW 10 s = (pre ++ [(s.take i).drop f]) ++ splitW 10 (s.drop (i + 1)) := by
    rw [hsp, drop_at hf hc, split_app hno, List.append_assoc]
    rfl
   refine Sr (Mv ?_)
   refine Mv ?_
   refine Mv ?_
   refine Mv ?_
   refine Vv (Gives.sliceBothT (l := s) (i := f) (m := i) rfl rfl rfl (by omega) (by omega)) (FL_buildSlice H7 (xs := [.tmp 21]) (out := [(s.take i).drop f].flatMap textCells) (Elems.one rfl rfl Elems.nil) rfl rfl rfl (fun bs w26 H26 k25 => ?_))
   refine FL_appendD H26 (news := [(s.take i).drop f]) At0 (by unfold maxLen; simp; omega) (by simp; omega) (cells_one (fun _ => rfl) _) (h := ?_)
   intro v2 w28 H28
   refine Am ?_
   refine Qn (FW_region (Mv ?_))
   refine Vv (Gives.addI rfl rfl rfl (by omega)) (Am ?_)
   refine FL_nil (Qblk_normal (Qseq_normal (FW_region (Mv ?_))))
   refine Vv (Gives.addI rfl rfl rfl (by omega)) (Am ?_)
   refine FL_nil ?_
   exact Qround_normal (i + 1, i + 1, pre ++ [(s.take i).drop f], v2) ⟨rfl, rfl, rfl, rfl, trivial⟩ ⟨⟨by dsimp only; omega, Nat.le_refl _, by dsimp only; rw [List.length_append, List.length_singleton]; omega, hsp2, fun c hc => by dsimp only at hc; rw [List.drop_of_length_le (by rw [List.length_take]; omega)] at hc; exact absurd hc List.not_mem_nil⟩, H28⟩ (by dsimp only; omega)
  have hc10 : ¬ c = 10 := fun e => hc18 (by rw [e]; rfl)
  refine FW_skip (Qblk_normal (Qseq_normal (FW_region (Mv ?_))))
  refine Vv (Gives.addI rfl rfl rfl (by omega)) (Am ?_)
  refine FL_nil ?_
  exact Qround_normal (i + 1, f, pre, v0) ⟨rfl, rfl, rfl, rfl, trivial⟩ ⟨⟨by dsimp only; omega, by dsimp only; omega, by dsimp only; omega, hsp, fun u hu => by
  dsimp only at hu
  rw [piece_next hf hc] at hu
  rcases List.mem_append.1 hu with h | h
  ·exact hno u h
  rw [List.mem_singleton.1 h]; exact hc10⟩, H7⟩ (by dsimp only; omega)
 have hil : i = s.length := by omega
 rw [hil, List.take_length] at hno
 rw [split_word hno] at hsp
 refine FW_exit (Qseq_exit (Qround_exit (Qblk_exit (Qseq_normal (FW_seq (Sr (Mv ?_)))))))
 refine Mv ?_
 refine Vt ?_
 refine Vl ?_
 refine Qn (Cp rfl (fun hc47 => ?_) (fun hc47 => ?_))
 ·have hne : ¬ s.drop f = [] := fun e => by have := congrArg List.length e; rw [List.length_drop, List.length_nil] at this; omega
  have hres : linesL s = (pre ++ [s.drop f], false) := by
   unfold linesL
   rw [hsp, if_neg (by rw [List.getLast?_append]; simp only [List.getLast?_singleton, Option.some_or]; exact fun e => hne (by injection e))]
  refine Sr (Mv ?_)
  refine Mv ?_
  refine Mv ?_
  refine Vv (Gives.sliceFromT rfl rfl (by omega)) (FL_buildSlice H7 (xs := [.tmp 33]) (out := [s.drop f].flatMap textCells) (Elems.one rfl rfl Elems.nil) rfl rfl rfl (fun bs w54 H54 k53 => ?_))
  refine FL_appendD H54 (news := [s.drop f]) At0 (by unfold maxLen; simp; omega) (by simp; omega) (cells_one (fun _ => rfl) _) (h := ?_)
  intro v2 w56 H56
  refine Am ?_
  refine Am ?_
  refine Qn (Rs (Qfn_ret (hR := ?_)))
  exact ⟨v2, by rw [hres]; rfl, trivial, by rw [hres]; exact H56.turn⟩
 have hres : linesL s = (pre, true) := by
  rw [List.drop_of_length_le (show s.length ≤ f by omega)] at hsp
  unfold linesL
  rw [hsp, if_pos (by rw [List.getLast?_append]; rfl), List.dropLast_concat]
 refine Sk (Sr (Mv ?_))
 refine Am ?_
 refine Am ?_
 refine Qn (FW_ret (Qfn_ret (hR := ?_)))
 exact ⟨v0, by rw [hres]; rfl, trivial, by rw [hres]; exact H7.turn⟩
theorem where_ok23 (s : List UInt8) (hl : s.length ≤ 1000000) : Rets Tryz.prog 47 [str s] w fun v w' => ∃ x : Value × List StepM, v = .tuple #[x.1, .bool (whereL s).isSome] ∧ (∀ l, whereL s = some l → x.2 = l) ∧ Turn noB (rowD 60 3 stepCells x.1 x.2) w w' := by
 have H := Sep.start0 w
 obtain ⟨ah, hah⟩ : ∃ ah, ah = aheadL whereW s := ⟨_, rfl⟩
 obtain ⟨t, ht⟩ : ∃ t, t = ah.getD [] := ⟨_, rfl⟩
 have htl : t.length ≤ 1000000 := by
  rw [ht, hah]
  unfold aheadL
  split
  ·show (s.drop _).length ≤ _; rw [List.length_drop]; omega
  exact Nat.zero_le _
 have hsome : ah.isSome = true → whereL s = if t = [] then none else if t = noneW then some [] else if (parseS t).2 = 0 then some (parseS t).1 else none := fun h => by
  obtain ⟨u, hu⟩ := Option.isSome_iff_exists.1 h
  unfold whereL
  rw [← hah, hu, Option.bind_some, ht, hu]
  rfl
 have hnone : ah.isSome = false → whereL s = none := fun h => by
  rw [Option.isSome_eq_false_iff, Option.isNone_iff_eq_none] at h
  unfold whereL
  rw [← hah, h]
  rfl
 refine rets1 Tryz.func47 rfl rfl rfl rfl ?_
 refine Sr (Am ?_)
 refine Am ?_
 refine Nx (Mv ?_)
 refine FL_callQ H (ahead_ok23 s whereW) (h := fun w5 H5 k4 => ?_)
 rw [← hah, ← ht]
 refine Mv ?_
 refine Vx ?_
 refine Vx ?_
 refine Am ?_
 refine Am ?_
 refine Qn (FW_seq (Sr (Mv ?_)))
 refine Vv (Gives.not rfl) (Mv ?_)
 refine FL_split (t := 15) rfl (fun hs14 => ?_) (fun hs14 => ?_)
 ·have hres := hnone (by simpa using hs14)
  refine Of (Of (Pt ?_))
  refine Qn (FW_cond_true rfl ?_)
  refine Sr (Am ?_)
  refine Am ?_
  refine Qn (Rs (Qfn_ret (hR := ?_)))
  exact ⟨(.slice none 0 0, []), by rw [hres]; rfl, fun l h => (by rw [hres] at h; cases h), (Sep.nilD H5 60 3 stepCells).first.turn⟩
 have hres := hsome (by simpa using hs14)
 refine On (Mv ?_)
 refine On (Vv (Gives.eqlT rfl rfl) (Pf ?_))
 refine Qn (Cp rfl (fun hc24 => ?_) (fun hc24 => ?_))
 ·rw [if_pos hc24] at hres
  refine Sr (Am ?_)
  refine Am ?_
  refine Qn (Rs (Qfn_ret (hR := ?_)))
  exact ⟨(.slice none 0 0, []), by rw [hres]; rfl, fun l h => (by rw [hres] at h; cases h), (Sep.nilD H5 60 3 stepCells).first.turn⟩
 rw [if_neg hc24] at hres
 refine Sk (FW_seq (Sr (Mv ?_)))
 refine Vv (Gives.eqlT rfl rfl) (Qn ?_)
 refine Cp rfl (fun hc32 => ?_) (fun hc32 => ?_)
 ·rw [if_pos (show t = noneW from hc32)] at hres
  refine Sr (Am ?_)
  refine Am ?_
  refine Qn (Rs (Qfn_ret (hR := ?_)))
  exact ⟨(.slice none 0 0, []), by rw [hres]; rfl, fun l h => (by rw [hres] at h; injection h), (Sep.nilD H5 60 3 stepCells).first.turn⟩
 rw [if_neg (show ¬ t = noneW from hc32)] at hres
 refine Sk (Sr (Mv ?_))
 refine FL_callN H5 (parse_ok22 t htl) (h := fun x w40 _ H40 k39 => ?_)
 refine Mv ?_
 refine Vx ?_
 refine Vx ?_
 refine Am ?_
 refine Am ?_
 refine Nx (Mv ?_)
 refine Mv ?_
 refine Ve ?_
 refine Am ?_
 refine Am ?_
 refine Qn (FW_ret (Qfn_ret (hR := ?_)))
 refine ⟨(x, (parseS t).1), ?_, fun l h => ?_, H40.turn⟩
 ·rw [hres]
  by_cases e : (parseS t).2 = 0
  ·rw [if_pos e]; exact congrArg (fun b => Value.tuple #[x, .bool b]) (decide_eq_true e)
  rw [if_neg e]; exact congrArg (fun b => Value.tuple #[x, .bool b]) (decide_eq_false e)
 rw [hres] at h
 split at h
 ·injection h
 cases h
theorem out_ok23 (s : List UInt8) (hl : s.length ≤ 1000000) : Rets Tryz.prog 48 [str s] w fun v w' => ∃ x : List UInt8 × Value × List StepM, v = .tuple #[agg (outCells (x.1, x.2.1)), .bool (outL s).isSome] ∧ (∀ o, outL s = some o → x.1 = o.name ∧ x.2.2 = o.steps) ∧ Turn noB (rowD 60 3 stepCells x.2.1 x.2.2) w w' := by
  have H := Sep.start0 w
  obtain ⟨ah, hah⟩ : ∃ ah, ah = aheadL outW s := ⟨_, rfl⟩
  obtain ⟨t, ht⟩ : ∃ t, t = ah.getD [] := ⟨_, rfl⟩
  have htl : t.length ≤ 1000000 := by
    rw [ht, hah]
    unfold aheadL
    split
    · show (s.drop _).length ≤ _; rw [List.length_drop]; omega
    exact Nat.zero_le _
  have hsome : ah.isSome = true → outL s = (cutL t).bind fun x => if (parseS x.2).2 = 0 ∧ (parseS x.2).1 ≠ [] ∧ isNameS x.1 = true then some ⟨x.1, (parseS x.2).1⟩ else none := fun h => by
    obtain ⟨u, hu⟩ := Option.isSome_iff_exists.1 h
    unfold outL
    rw [← hah, hu, Option.bind_some, ht, hu]
    rfl
  have hnone : ah.isSome = false → outL s = none := fun h => by
    rw [Option.isSome_eq_false_iff, Option.isNone_iff_eq_none] at h
    unfold outL
    rw [← hah, h]
    rfl
  refine retsC1 Tryz.func48 rfl rfl rfl rfl ?_
  refine Sr (FL_alloc H (h := fun b2 w2 H2 k1 => ?_))
  refine Am ?_
  refine Nx (Mv ?_)
  refine FL_callQ H2 (ahead_ok23 s outW) (h := fun w6 H6 k5 => ?_)
  rw [← hah, ← ht]
  refine Mv ?_
  refine Vx ?_
  refine Vx ?_
  refine Am ?_
  refine Am ?_
  refine Qn (FW_seq (Sr (Am ?_)))
  refine Qn (FW_block (FW_loop' (fun i : Nat => [(2, selfP b2), (4, str t), (5, .bool ah.isSome), (6, I i)]) (fun i w' => (i ≤ t.length ∧ ∀ c ∈ t.take i, c ≠ 32) ∧ Sep w noB [blk b2 (outCells ([], .slice none 0 0)) 53] w') (fun i _ => t.length - i) 0 ⟨rfl, rfl, rfl, rfl, trivial⟩ ⟨⟨Nat.zero_le _, fun c hc => by simp at hc⟩, H6⟩ (fun i τ w14 hI => ?_)))
  obtain ⟨⟨hi, hno⟩, H14⟩ := hI
  try simp only [upds, like, upd_ds, und_ds]
  refine FW_seq (Sr (Mv ?_))
  refine Mv ?_
  refine FL_split (t := 15) rfl (fun hs17 => ?_) (fun hs17 => ?_)
  · have hres := hsome hs17
    refine On (Mv ?_)
    refine On (Mv ?_)
    refine On (Vt ?_)
    refine On (Vl ?_)
    refine Pt ?_
    refine Qn (Cp rfl (fun hc24 => ?_) (fun hc24 => ?_))
    · have hlt : i < t.length := by omega
      obtain ⟨c, hc⟩ := get_some hlt
      have hcd : t.getD i 0 = c := getD_of hc
      refine Sk (FW_seq (FW_block (Sr (Mv ?_))))
      refine Mv ?_
      refine Vv (Gives.idxD rfl rfl hlt) ?_
      rw [hcd]
      refine Ve ?_
      refine Qn (Cp rfl (fun hc30 => ?_) (fun hc30 => ?_))
      · have hc32 : c = 32 := by rw [← UInt8.toNat_inj]; show c.toNat = 32; omega
        rw [hc32] at hc
        rw [cut_at hno hc, Option.bind_some] at hres
        dsimp only at hres
        refine Sr (Mv ?_)
        refine Mv ?_
        refine Vv (Gives.addI (c := ((i + 1 : Nat) : Int)) rfl rfl (by omega) (by omega)) (Vv (Gives.sliceFromT rfl rfl (by omega)) ?_)
        refine FL_callN H14 (parse_ok22 (t.drop (i + 1)) (by rw [List.length_drop]; omega)) (h := fun x w37 _ H37 k36 => ?_)
        obtain ⟨X, cx, rfl, _, _⟩ := Sep.formD H37 At0
        refine Mv ?_
        refine Vx ?_
        refine Vx ?_
        refine Am ?_
        refine Am ?_
        refine Qn (FW_seq (FW_drawS rfl H37 (h := fun hok43 w45 H45 => ?_)))
        refine Gm hok43 0 ?_
        refine Gm hok43 1 ?_
        refine Gp hok43 2 rfl rfl (fun _ => (Gives.sliceToT rfl rfl (by omega))) (Gm hok43 3 ?_)
        refine Gp hok43 4 rfl rfl (fun _ => (Gives.build (out := outCells (t.take i, .slice X (parseS (t.drop (i + 1))).1.length cx)) (Fills.one rfl rfl rfl (by simp) rfl (Fills.one rfl rfl rfl (by simp) rfl Fills.nil)))) (Gm hok43 5 ?_)
        refine Gp hok43 6 rfl rfl (fun _ => (Gives.eql rfl rfl)) (Gm hok43 7 ?_)
        refine FG_splitP (t := 42) rfl (fun hs49 => ?_) (fun hs49 => ?_)
        · refine Gm hok43 8 ?_
          refine Gp hok43 9 rfl rfl (fun _ => (Gives.lenSlice rfl)) (Gp hok43 10 rfl rfl (fun _ => (Gives.gtr rfl rfl)) ?_)
          refine Gp hok43 11 rfl rfl (fun _ => Gives.pickT rfl rfl) (Gm hok43 12 ?_)
          refine FG_splitP (t := 47) rfl (fun hs53 => ?_) (fun hs53 => ?_)
          · have hpne : (parseS (t.drop (i + 1))).1 ≠ [] := fun e => by rw [e] at hs53; exact absurd hs53 (by decide)
            have hp0 : (parseS (t.drop (i + 1))).2 = 0 := by assumption
            refine Gm hok43 13 ?_
            refine Gm hok43 14 ?_
            refine Gp hok43 15 rfl rfl (fun _ => (Gives.sliceToT rfl rfl (by omega))) (FGcallQ hok43 16 [(4, true), (3, true), (2, true), (1, true), (0, true)] H45 (isName_ok11 (t.take i)) (h := fun w57 H57 k56 => ⟨Stab_pure (Stab_pure (Stab_pure (Stab_pure (Stab_pure (Stab_nil))))), ?_⟩))
            refine Gp hok43 17 rfl rfl (fun _ => Gives.pickT rfl rfl) (FGstoreAll hok43 18 [(17, true)] H57 (h := fun w60 H60 => ⟨Stab_pure (Stab_nil), ?_⟩))
            refine Gp hok43 19 rfl rfl (fun _ => Gives.assign rfl) (FG_end hok43 (by kernel_rfl) ?_)
            refine Qseq_normal (Rb (Qround_ret (Qblk_ret (Qseq_ret (QfnC_ret (h := ?_))))))
            first
            | exact ⟨_, resC2 H60, (t.take i, .slice X (parseS (t.drop (i + 1))).1.length cx, (parseS (t.drop (i + 1))).1), by rw [hres]; rfl, fun o h => (by rw [hres] at h; cases h), H60.first.turn⟩
            | (cases hnm : isNameS (t.take i) with
               | true =>
                 rw [if_pos ⟨hp0, hpne, hnm⟩] at hres
                 exact ⟨_, resC2 H60, (t.take i, .slice X (parseS (t.drop (i + 1))).1.length cx, (parseS (t.drop (i + 1))).1), by rw [hres]; rfl, fun o h => (by rw [hres] at h; injection h with h; rw [← h]; exact ⟨rfl, rfl⟩), H60.first.turn⟩
               | false =>
                 rw [if_neg (fun h => by rw [hnm] at h; exact absurd h.2.2 (by decide))] at hres
                 exact ⟨_, resC2 H60, (t.take i, .slice X (parseS (t.drop (i + 1))).1.length cx, (parseS (t.drop (i + 1))).1), by rw [hres]; rfl, fun o h => (by rw [hres] at h; cases h), H60.first.turn⟩)
          rw [if_neg (fun h => h.2.1 (List.eq_nil_of_length_eq_zero (by omega)))] at hres
          refine FGoff hok43 13 rfl rfl (by kernel_rfl) ?_
          refine FGoff hok43 14 rfl rfl (by kernel_rfl) ?_
          refine FGoff hok43 15 rfl rfl (by kernel_rfl) ?_
          refine FGoff hok43 16 rfl rfl (by kernel_rfl) ?_
          refine Gp hok43 17 rfl rfl (fun _ => Gives.pickF rfl rfl) (FGstoreAll hok43 18 [(17, true)] H45 (h := fun w66 H66 => ⟨Stab_pure (Stab_nil), ?_⟩))
          refine Gp hok43 19 rfl rfl (fun _ => Gives.assign rfl) (FG_end hok43 (by kernel_rfl) ?_)
          refine Qseq_normal (Rb (Qround_ret (Qblk_ret (Qseq_ret (QfnC_ret (h := ?_))))))
          first
          | exact ⟨_, resC2 H66, (t.take i, .slice X (parseS (t.drop (i + 1))).1.length cx, (parseS (t.drop (i + 1))).1), by rw [hres]; rfl, fun o h => (by rw [hres] at h; cases h), H66.first.turn⟩
          | (cases hnm : isNameS (t.take i) with
             | true =>
               rw [if_pos ⟨hp0, hpne, hnm⟩] at hres
               exact ⟨_, resC2 H66, (t.take i, .slice X (parseS (t.drop (i + 1))).1.length cx, (parseS (t.drop (i + 1))).1), by rw [hres]; rfl, fun o h => (by rw [hres] at h; injection h with h; rw [← h]; exact ⟨rfl, rfl⟩), H66.first.turn⟩
             | false =>
               rw [if_neg (fun h => by rw [hnm] at h; exact absurd h.2.2 (by decide))] at hres
               exact ⟨_, resC2 H66, (t.take i, .slice X (parseS (t.drop (i + 1))).1.length cx, (parseS (t.drop (i + 1))).1), by rw [hres]; rfl, fun o h => (by rw [hres] at h; cases h), H66.first.turn⟩)
        rw [if_neg (fun h => hs49 h.1)] at hres
        refine FGoff hok43 8 rfl rfl (by kernel_rfl) ?_
        refine FGoff hok43 9 rfl rfl (by kernel_rfl) ?_
        refine FGoff hok43 10 rfl rfl (by kernel_rfl) ?_
        refine Gp hok43 11 rfl rfl (fun _ => Gives.pickF rfl rfl) (Gm hok43 12 ?_)
        refine FGoff hok43 13 rfl rfl (by kernel_rfl) ?_
        refine FGoff hok43 14 rfl rfl (by kernel_rfl) ?_
        refine FGoff hok43 15 rfl rfl (by kernel_rfl) ?_
        refine FGoff hok43 16 rfl rfl (by kernel_rfl) ?_
        refine Gp hok43 17 rfl rfl (fun _ => Gives.pickF rfl rfl) (FGstoreAll hok43 18 [(17, true)] H45 (h := fun w73 H73 => ⟨Stab_pure (Stab_nil), ?_⟩))
        refine Gp hok43 19 rfl rfl (fun _ => Gives.assign rfl) (FG_end hok43 (by kernel_rfl) ?_)
        refine Qseq_normal (Rb (Qround_ret (Qblk_ret (Qseq_ret (QfnC_ret (h := ?_))))))
        first
        | exact ⟨_, resC2 H73, (t.take i, .slice X (parseS (t.drop (i + 1))).1.length cx, (parseS (t.drop (i + 1))).1), by rw [hres]; rfl, fun o h => (by rw [hres] at h; cases h), H73.first.turn⟩
        | (cases hnm : isNameS (t.take i) with
           | true =>
             rw [if_pos ⟨hp0, hpne, hnm⟩] at hres
             exact ⟨_, resC2 H73, (t.take i, .slice X (parseS (t.drop (i + 1))).1.length cx, (parseS (t.drop (i + 1))).1), by rw [hres]; rfl, fun o h => (by rw [hres] at h; injection h with h; rw [← h]; exact ⟨rfl, rfl⟩), H73.first.turn⟩
           | false =>
             rw [if_neg (fun h => by rw [hnm] at h; exact absurd h.2.2 (by decide))] at hres
             exact ⟨_, resC2 H73, (t.take i, .slice X (parseS (t.drop (i + 1))).1.length cx, (parseS (t.drop (i + 1))).1), by rw [hres]; rfl, fun o h => (by rw [hres] at h; cases h), H73.first.turn⟩)
      have hc32 : ¬ c = 32 := fun e => hc30 (by rw [e]; rfl)
      refine FW_skip (Qblk_normal (Qseq_normal (FW_region (Mv ?_))))
      refine Vv (Gives.addI rfl rfl rfl (by omega)) (Am ?_)
      refine FL_nil ?_
      exact Qround_normal (i + 1) ⟨rfl, rfl, rfl, rfl, trivial⟩ ⟨⟨by omega, fun u hu => by
      rw [List.take_add_one, hc, Option.toList_some] at hu
      rcases List.mem_append.1 hu with h | h
      · exact hno u h
      rw [List.mem_singleton.1 h]; exact hc32⟩, H14⟩ (by omega)
    have hil : i = t.length := by omega
    rw [hil, List.take_length] at hno
    rw [cut_not hno, Option.bind_none] at hres
    refine FW_exit (Qseq_exit (Qround_exit (Qblk_exit (Qseq_normal (Sr (Vv (Gives.build (out := outCells ([], .slice none 0 0)) Fills.nil) ?_))))))
    refine FL_storeAll H14 (h := fun w84 H84 => ?_)
    refine Am ?_
    refine Qn (FW_ret (QfnC_ret (h := ?_)))
    exact ⟨_, resC2 H84, ([], .slice none 0 0, []), by rw [hres]; rfl, fun o h => (by rw [hres] at h; cases h), (Sep.nilD H84 60 3 stepCells).first.turn⟩
  have hres := hnone hs17
  refine Of (Of (Of (Of (Pf ?_))))
  refine Qn (FW_cond_false rfl ?_)
  refine FW_exit (Qseq_exit (Qround_exit (Qblk_exit (Qseq_normal (Sr (Vv (Gives.build (out := outCells ([], .slice none 0 0)) Fills.nil) ?_))))))
  refine FL_storeAll H14 (h := fun w91 H91 => ?_)
  refine Am ?_
  refine Qn (FW_ret (QfnC_ret (h := ?_)))
  exact ⟨_, resC2 H91, ([], .slice none 0 0, []), by rw [hres]; rfl, fun o h => (by rw [hres] at h; cases h), (Sep.nilD H91 60 3 stepCells).first.turn⟩
end
end Go.Proofs.YtolaedhdjcnijaaGreatDoor
