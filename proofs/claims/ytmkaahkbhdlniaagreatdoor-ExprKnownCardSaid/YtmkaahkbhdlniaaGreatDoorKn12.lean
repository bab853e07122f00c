/-
 The document's cells, walked: reading a number.
-/
import Derived.Test.YtmkaahkbhdlniaaGreatDoorKn11
set_option linter.unusedVariables false
set_option linter.unusedSimpArgs false
namespace Go.Proofs.YtmkaahkbhdlniaaGreatDoor
open Go Go.Mw Go.Lib
set_option maxRecDepth 4000
def wholeM (b : Bool) (m : List UInt8) : Int × Bool :=
 if m.length < 1 ∨ 19 < m.length then (0, false) else match digitsD m 0 with
  | none => (0, false)
  | some n => if b = true ∧ n ≤ 9223372036854775808 then (-(n : Int), true) else (IntKind.i64.wrap n, decide (b = false ∧ n < 9223372036854775808))
theorem whole_m (l : List UInt8) : wholeL l = if l.head? = some 45 then wholeM true (l.drop 1) else wholeM false l := by
 unfold wholeL wholeM
 split
 ·split
  ·rfl
  cases digitsD (l.drop 1) 0 with
  | none => rfl
  | some n => simp
 split
 ·rfl
 cases digitsD l 0 with
 | none => rfl
 | some n => simp
theorem wrap_neg {n : Nat} (h : n ≤ 9223372036854775808) : IntKind.i64.wrap (IntKind.u64.wrap (0 - (n : Int))) = -(n : Int) := by
 have e : IntKind.u64.wrap (0 - (n : Int)) = (0 - (n : Int)) % 18446744073709551616 := by simp [IntKind.wrap, IntKind.bits, IntKind.signed]
 rw [e, IntKind.wrap_i64]; omega
theorem head_45 {l : List UInt8} (h : 0 < l.length) : (l.head? = some 45) ↔ (l.getD 0 0).toNat = 45 := by
 cases l with
 | nil => cases h
 | cons c t =>
  simp
  exact ⟨fun e => by rw [e]; rfl, fun e => UInt8.toNat_inj.1 e⟩
section
variable {w : World}
theorem whole_ok9 (l : List UInt8) (hl : l.length ≤ 9223372036854775807) : Rets Tryz.prog 145 [str l] w fun v w' => v = .tuple #[I (wholeL l).1, .bool (wholeL l).2] ∧ w = w' := by
  have H := Sep.start0 w
  obtain ⟨res, hres⟩ : ∃ res, res = wholeL l := ⟨_, rfl⟩
  have hwm := whole_m l
  rw [← hres] at hwm ⊢
  refine rets1 Tryz.func145 rfl rfl rfl rfl ?_
  refine Sr (Am ?_)
  refine Am ?_
  refine Nx (Mv ?_)
  refine Vt ?_
  refine Vg ?_
  refine Mv ?_
  refine FL_splitP (t := 10) rfl (fun hs7 => ?_) (fun hs7 => ?_)
  · have hpos : 0 < l.length := by omega
    refine On (Mv ?_)
    refine On (Vv (Gives.idxD (i := 0) rfl rfl (by omega)) (On ?_))
    refine Ve ?_
    obtain ⟨b, hb⟩ : ∃ b, b = decide (((l.getD 0 0).toNat : Int) = 45) := ⟨_, rfl⟩
    rw [← hb]
    refine Pt ?_
    refine Am ?_
    refine Qn (FW_seq (Sr (Mv ?_)))
    refine Qn (Cd rfl (fun hc15 => ?_) (fun hc15 => ?_))
    · have hbt := hc15
      have h45 : (l.getD 0 0).toNat = 45 := by rw [hc15] at hb; have := of_decide_eq_true hb.symm; omega
      obtain ⟨m, hm⟩ : ∃ m, m = l.drop 1 := ⟨_, rfl⟩
      have hlm : m.length ≤ l.length := by rw [hm, List.length_drop]; omega
      rw [if_pos ((head_45 hpos).2 h45), ← hm, ← hc15] at hwm
      refine FW_region (Mv ?_)
      refine Vv (Gives.sliceFromT (i := 1) rfl rfl (by omega)) ?_
      rw [← hm]
      refine Am ?_
      refine Qn (FW_seq (Sr (Mv ?_)))
      refine Vt ?_
      refine Vl ?_
      refine Mv ?_
      refine FL_splitP (t := 21) rfl (fun hs24 => ?_) (fun hs24 => ?_)
      · refine Of (Of (Of (Pt ?_)))
        refine Qn (FW_cond_true rfl ?_)
        refine Sr (Am ?_)
        refine Am ?_
        refine Qn (Rs (Qfn_ret (hR := ?_)))
        exact ⟨by first | (rw [hfin]; rfl) | (rw [hwm]; unfold wholeM; rw [if_pos (by omega)]; rfl), rfl⟩
      refine On (Mv ?_)
      refine On (Vt ?_)
      refine On (Vg ?_)
      refine Pf ?_
      refine Qn (Cp rfl (fun hc33 => ?_) (fun hc33 => ?_))
      · have hmm : 19 < m.length := by omega
        refine Sr (Am ?_)
        refine Am ?_
        refine Qn (Rs (Qfn_ret (hR := ?_)))
        exact ⟨by first | (rw [hfin]; rfl) | (rw [hwm]; unfold wholeM; rw [if_pos (by omega)]; rfl), rfl⟩
      have hmm : ¬ (m.length < 1 ∨ 19 < m.length) := by omega
      refine Sk (Sr (Am ?_))
      refine Qn (FW_seq (Sr (Am ?_)))
      refine Qn (FW_block ?_)
      obtain ⟨dm, hdm⟩ : ∃ dm, dm = digitsD m 0 := ⟨_, rfl⟩
      unfold wholeM at hwm
      rw [if_neg hmm, ← hdm] at hwm
      refine FW_loop' (fun x : Nat × Nat => [(0, str m), (4, .bool b), (5, .int .u64 x.2), (6, I x.1)]) (fun x w' => (x.1 ≤ m.length ∧ x.2 < 10 ^ x.1 ∧ digitsD (m.drop x.1) x.2 = dm) ∧ w = w') (fun x _ => m.length - x.1) (0, 0) ⟨rfl, rfl, rfl, rfl, trivial⟩ ⟨⟨Nat.zero_le _, by decide, by rw [List.drop_zero, hdm]⟩, rfl⟩ (fun x τ w42 hI => ?_)
      obtain ⟨i, acc⟩ := x
      obtain ⟨⟨hi, hacc, hst⟩, rfl⟩ := hI
      dsimp only at hi hacc hst
      try simp only [upds, like, upd_ds, und_ds]
      refine FW_seq (Sr (Mv ?_))
      refine Mv ?_
      refine Vt ?_
      refine Vl ?_
      refine Qn (Cp rfl (fun hc47 => ?_) (fun hc47 => ?_))
      · have hlt : i < m.length := by omega
        obtain ⟨c, hc⟩ : ∃ c, c = m.getD i 0 := ⟨_, rfl⟩
        have hcl := c.toNat_lt
        rw [drop_cons hlt, ← hc, digitsD] at hst
        have hp : 10 ^ i ≤ 10 ^ 18 := Nat.pow_le_pow_right (by decide) (by omega)
        have hps : 10 ^ (i + 1) = 10 ^ i * 10 := Nat.pow_succ 10 i
        have hps' : (10 : Nat) ^ 18 = 1000000000000000000 := by decide
        refine Sk (FW_seq (FW_block (FW_seq (Sr (Mv ?_)))))
        refine Mv ?_
        refine Vv (Gives.idxD rfl rfl hlt) ?_
        rw [← hc]
        refine Vl ?_
        refine Mv ?_
        refine FL_splitP (t := 36) rfl (fun hs54 => ?_) (fun hs54 => ?_)
        · refine Of (Of (Of (Of (Pt ?_))))
          refine Qn (FW_cond_true rfl ?_)
          refine Sr (Am ?_)
          refine Am ?_
          refine Qn (Rs (Qblk_ret (Qseq_ret (Qround_ret (Qblk_ret (Qseq_ret (Qfn_ret (hR := ?_))))))))
          have hd : ¬ isDig c = true := fun h => by have := of_decide_eq_true h; omega
          rw [if_neg hd] at hst
          rw [← hst] at hwm
          exact ⟨by rw [hwm]; rfl, rfl⟩
        refine On (Mv ?_)
        refine On (Mv ?_)
        refine On (Vv (Gives.idxD rfl rfl hlt) ?_)
        rw [← hc]
        refine On (Vg ?_)
        refine Pf ?_
        refine Qn (Cp rfl (fun hc64 => ?_) (fun hc64 => ?_))
        · refine Sr (Am ?_)
          refine Am ?_
          refine Qn (Rs (Qblk_ret (Qseq_ret (Qround_ret (Qblk_ret (Qseq_ret (Qfn_ret (hR := ?_))))))))
          have hd : ¬ isDig c = true := fun h => by have := of_decide_eq_true h; omega
          rw [if_neg hd] at hst
          rw [← hst] at hwm
          exact ⟨by rw [hwm]; rfl, rfl⟩
        have hd : isDig c = true := decide_eq_true (by omega)
        refine Sk (FW_region (Mv ?_))
        refine Vv (Gives.mulW (c := ((10 * acc : Nat) : Int)) rfl rfl (by rw [wrapU (by omega)]; omega)) ?_
        refine Mv ?_
        refine Mv ?_
        refine Vv (Gives.idxD rfl rfl hlt) ?_
        rw [← hc]
        refine Vv (Gives.subW (c := ((c.toNat - 48 : Nat) : Int)) rfl rfl (by rw [wrapB (by omega)]; omega)) ?_
        refine Vv (Gives.convW (k := .u64) (c := ((c.toNat - 48 : Nat) : Int)) rfl (wrapU (by omega))) (Vv (Gives.addW (c := ((10 * acc + (c.toNat - 48) : Nat) : Int)) rfl rfl (by rw [wrapU (by omega)]; omega)) ?_)
        refine Am ?_
        refine FL_nil (Qblk_normal (Qseq_normal (FW_region (Mv ?_))))
        refine Vv (Gives.addI rfl rfl rfl (by omega)) (Am ?_)
        refine FL_nil ?_
        exact Qround_normal (i + 1, 10 * acc + (c.toNat - 48)) ⟨rfl, rfl, rfl, rfl, trivial⟩ ⟨⟨by dsimp only; omega, by dsimp only; omega, by dsimp only; rw [if_pos hd] at hst; exact hst⟩, rfl⟩ (by dsimp only; omega)
      have him : i = m.length := by omega
      have hp : 10 ^ i ≤ 10 ^ 19 := Nat.pow_le_pow_right (by decide) (by omega)
      have hps' : (10 : Nat) ^ 19 = 10000000000000000000 := by decide
      rw [him, List.drop_length, digitsD] at hst
      rw [← hst] at hwm
      dsimp only at hwm
      refine FW_exit (Qseq_exit (Qround_exit (Qblk_exit (Qseq_normal (FW_seq (Sr (Mv ?_)))))))
      refine Mv ?_
      refine FL_split (t := 51) rfl (fun hs85 => ?_) (fun hs85 => ?_)
      · refine On (Mv ?_)
        refine On (Vv (Gives.leq rfl rfl) (Pt ?_))
        refine Qn (Cp rfl (fun hc89 => ?_) (fun hc89 => ?_))
        · refine Sr (Mv ?_)
          refine Vv (Gives.negW (c := IntKind.u64.wrap (0 - (acc : Int))) rfl rfl) (Vv (Gives.convW (k := .i64) (c := -(acc : Int)) rfl (wrap_neg (by omega))) ?_)
          refine Am ?_
          refine Am ?_
          refine Qn (Rs (Qfn_ret (hR := ?_)))
          exact ⟨by rw [hwm, if_pos ⟨hbt, by omega⟩]; rfl, rfl⟩
        refine Sk (Sr (Mv ?_))
        refine Vv (Gives.convW (k := .i64) (c := IntKind.i64.wrap (acc : Int)) rfl rfl) (Mv ?_)
        refine Vv (Gives.not rfl) (Mv ?_)
        refine FL_split (t := 62) rfl (fun hs101 => ?_) (fun hs101 => ?_)
        · (rw [hbt] at hs101; cases hs101)
        have hee : decide (b = false ∧ acc < 9223372036854775808) = false := decide_eq_false (fun h => by rw [hbt] at h; cases h.1)
        have hfin : res = (IntKind.i64.wrap (acc : Int), false) := by rw [hwm, if_neg (fun h => by omega), hee]
        refine Of (Of (Pf ?_))
        refine Am ?_
        refine Am ?_
        refine Qn (FW_ret (Qfn_ret (hR := ?_)))
        refine ⟨?_, rfl⟩; rw [hfin]; simp only [resPack, upd_same, upd_ne, ne_eq, Nat.reduceEqDiff, not_false_eq_true, List.map_cons, List.map_nil, updO]; rfl
      (rw [hbt] at hs85; cases hs85)
    have hbt := hc15
    have h45 : (l.getD 0 0).toNat ≠ 45 := by rw [hc15] at hb; have := of_decide_eq_false hb.symm; omega
    obtain ⟨m, hm⟩ : ∃ m, m = l := ⟨_, rfl⟩
    have hlm : m.length ≤ l.length := by rw [hm]; omega
    rw [if_neg (fun h => h45 ((head_45 hpos).1 h)), ← hm, ← hc15] at hwm
    rw [← hm]
    refine Sk (FW_seq (Sr (Mv ?_)))
    refine Vt ?_
    refine Vl ?_
    refine Mv ?_
    refine FL_splitP (t := 21) rfl (fun hs114 => ?_) (fun hs114 => ?_)
    · refine Of (Of (Of (Pt ?_)))
      refine Qn (FW_cond_true rfl ?_)
      refine Sr (Am ?_)
      refine Am ?_
      refine Qn (Rs (Qfn_ret (hR := ?_)))
      exact ⟨by first | (rw [hfin]; rfl) | (rw [hwm]; unfold wholeM; rw [if_pos (by omega)]; rfl), rfl⟩
    refine On (Mv ?_)
    refine On (Vt ?_)
    refine On (Vg ?_)
    refine Pf ?_
    refine Qn (Cp rfl (fun hc123 => ?_) (fun hc123 => ?_))
    · have hmm : 19 < m.length := by omega
      refine Sr (Am ?_)
      refine Am ?_
      refine Qn (Rs (Qfn_ret (hR := ?_)))
      exact ⟨by first | (rw [hfin]; rfl) | (rw [hwm]; unfold wholeM; rw [if_pos (by omega)]; rfl), rfl⟩
    have hmm : ¬ (m.length < 1 ∨ 19 < m.length) := by omega
    refine Sk (Sr (Am ?_))
    refine Qn (FW_seq (Sr (Am ?_)))
    refine Qn (FW_block ?_)
    obtain ⟨dm, hdm⟩ : ∃ dm, dm = digitsD m 0 := ⟨_, rfl⟩
    unfold wholeM at hwm
    rw [if_neg hmm, ← hdm] at hwm
    refine FW_loop' (fun x : Nat × Nat => [(0, str m), (4, .bool b), (5, .int .u64 x.2), (6, I x.1)]) (fun x w' => (x.1 ≤ m.length ∧ x.2 < 10 ^ x.1 ∧ digitsD (m.drop x.1) x.2 = dm) ∧ w = w') (fun x _ => m.length - x.1) (0, 0) ⟨rfl, rfl, rfl, rfl, trivial⟩ ⟨⟨Nat.zero_le _, by decide, by rw [List.drop_zero, hdm]⟩, rfl⟩ (fun x τ w132 hI => ?_)
    obtain ⟨i, acc⟩ := x
    obtain ⟨⟨hi, hacc, hst⟩, rfl⟩ := hI
    dsimp only at hi hacc hst
    try simp only [upds, like, upd_ds, und_ds]
    refine FW_seq (Sr (Mv ?_))
    refine Mv ?_
    refine Vt ?_
    refine Vl ?_
    refine Qn (Cp rfl (fun hc137 => ?_) (fun hc137 => ?_))
    · have hlt : i < m.length := by omega
      obtain ⟨c, hc⟩ : ∃ c, c = m.getD i 0 := ⟨_, rfl⟩
      have hcl := c.toNat_lt
      rw [drop_cons hlt, ← hc, digitsD] at hst
      have hp : 10 ^ i ≤ 10 ^ 18 := Nat.pow_le_pow_right (by decide) (by omega)
      have hps : 10 ^ (i + 1) = 10 ^ i * 10 := Nat.pow_succ 10 i
      have hps' : (10 : Nat) ^ 18 = 1000000000000000000 := by decide
      refine Sk (FW_seq (FW_block (FW_seq (Sr (Mv ?_)))))
      refine Mv ?_
      refine Vv (Gives.idxD rfl rfl hlt) ?_
      rw [← hc]
      refine Vl ?_
      refine Mv ?_
      refine FL_splitP (t := 36) rfl (fun hs144 => ?_) (fun hs144 => ?_)
      · refine Of (Of (Of (Of (Pt ?_))))
        refine Qn (FW_cond_true rfl ?_)
        refine Sr (Am ?_)
        refine Am ?_
        refine Qn (Rs (Qblk_ret (Qseq_ret (Qround_ret (Qblk_ret (Qseq_ret (Qfn_ret (hR := ?_))))))))
        have hd : ¬ isDig c = true := fun h => by have := of_decide_eq_true h; omega
        rw [if_neg hd] at hst
        rw [← hst] at hwm
        exact ⟨by rw [hwm]; rfl, rfl⟩
      refine On (Mv ?_)
      refine On (Mv ?_)
      refine On (Vv (Gives.idxD rfl rfl hlt) ?_)
      rw [← hc]
      refine On (Vg ?_)
      refine Pf ?_
      refine Qn (Cp rfl (fun hc154 => ?_) (fun hc154 => ?_))
      · refine Sr (Am ?_)
        refine Am ?_
        refine Qn (Rs (Qblk_ret (Qseq_ret (Qround_ret (Qblk_ret (Qseq_ret (Qfn_ret (hR := ?_))))))))
        have hd : ¬ isDig c = true := fun h => by have := of_decide_eq_true h; omega
        rw [if_neg hd] at hst
        rw [← hst] at hwm
        exact ⟨by rw [hwm]; rfl, rfl⟩
      have hd : isDig c = true := decide_eq_true (by omega)
      refine Sk (FW_region (Mv ?_))
      refine Vv (Gives.mulW (c := ((10 * acc : Nat) : Int)) rfl rfl (by rw [wrapU (by omega)]; omega)) ?_
      refine Mv ?_
      refine Mv ?_
      refine Vv (Gives.idxD rfl rfl hlt) ?_
      rw [← hc]
      refine Vv (Gives.subW (c := ((c.toNat - 48 : Nat) : Int)) rfl rfl (by rw [wrapB (by omega)]; omega)) ?_
      refine Vv (Gives.convW (k := .u64) (c := ((c.toNat - 48 : Nat) : Int)) rfl (wrapU (by omega))) (Vv (Gives.addW (c := ((10 * acc + (c.toNat - 48) : Nat) : Int)) rfl rfl (by rw [wrapU (by omega)]; omega)) ?_)
      refine Am ?_
      refine FL_nil (Qblk_normal (Qseq_normal (FW_region (Mv ?_))))
      refine Vv (Gives.addI rfl rfl rfl (by omega)) (Am ?_)
      refine FL_nil ?_
      exact Qround_normal (i + 1, 10 * acc + (c.toNat - 48)) ⟨rfl, rfl, rfl, rfl, trivial⟩ ⟨⟨by dsimp only; omega, by dsimp only; omega, by dsimp only; rw [if_pos hd] at hst; exact hst⟩, rfl⟩ (by dsimp only; omega)
    have him : i = m.length := by omega
    have hp : 10 ^ i ≤ 10 ^ 19 := Nat.pow_le_pow_right (by decide) (by omega)
    have hps' : (10 : Nat) ^ 19 = 10000000000000000000 := by decide
    rw [him, List.drop_length, digitsD] at hst
    rw [← hst] at hwm
    dsimp only at hwm
    refine FW_exit (Qseq_exit (Qround_exit (Qblk_exit (Qseq_normal (FW_seq (Sr (Mv ?_)))))))
    refine Mv ?_
    refine FL_split (t := 51) rfl (fun hs175 => ?_) (fun hs175 => ?_)
    · (rw [hbt] at hs175; cases hs175)
    refine Of (Of (Pf ?_))
    refine Qn (FW_cond_false rfl ?_)
    refine Sk (Sr (Mv ?_))
    refine Vv (Gives.convW (k := .i64) (c := IntKind.i64.wrap (acc : Int)) rfl rfl) (Mv ?_)
    refine Vv (Gives.not rfl) (Mv ?_)
    refine FL_split (t := 62) rfl (fun hs183 => ?_) (fun hs183 => ?_)
    · have hee : decide (b = false ∧ acc < 9223372036854775808) = decide ((acc : Int) < 9223372036854775808) := by
        rw [decide_eq_decide]; exact ⟨fun h => by omega, fun h => ⟨hbt, by omega⟩⟩
      have hfin : res = (IntKind.i64.wrap (acc : Int), decide ((acc : Int) < 9223372036854775808)) := by rw [hwm, if_neg (by rw [hbt]; simp), hee]
      refine On (Mv ?_)
      refine On (Vl ?_)
      refine Pt ?_
      refine Am ?_
      refine Am ?_
      refine Qn (FW_ret (Qfn_ret (hR := ?_)))
      refine ⟨?_, rfl⟩; rw [hfin]; simp only [resPack, upd_same, upd_ne, ne_eq, Nat.reduceEqDiff, not_false_eq_true, List.map_cons, List.map_nil, updO]; rfl
    (rw [hbt] at hs183; cases hs183)
  have hnil : l = [] := List.eq_nil_of_length_eq_zero (by omega)
  have hfin : res = (0, false) := by rw [hwm, hnil]; rfl
  refine Of (Of (Of (Pf ?_)))
  refine Am ?_
  refine Qn (FW_seq (Sr (Mv ?_)))
  refine Qn (FW_cond_false rfl ?_)
  refine Sk (FW_seq (Sr (Mv ?_)))
  refine Vt ?_
  refine Vl ?_
  refine Mv ?_
  refine FL_splitP (t := 21) rfl (fun hs200 => ?_) (fun hs200 => ?_)
  · refine Of (Of (Of (Pt ?_)))
    refine Qn (FW_cond_true rfl ?_)
    refine Sr (Am ?_)
    refine Am ?_
    refine Qn (Rs (Qfn_ret (hR := ?_)))
    exact ⟨by first | (rw [hfin]; rfl) | (rw [hwm]; unfold wholeM; rw [if_pos (by omega)]; rfl), rfl⟩
  omega
end
def kindW (k : Int) : List UInt8 := if k = 1 then [98, 111, 111, 108] else if k = 2 then [105, 110, 116, 51, 50] else if k = 3 then [105, 110, 116, 54, 52] else if k = 4 then [115, 116, 114, 105, 110, 103] else if k = 5 then [98, 121, 116, 101, 115] else []
section
variable {w : World}
theorem word_ok11 (k : Int) : Rets Tryz.prog 139 [I k] w fun v w' => v = str (kindW k) ∧ w = w' := by
 have H := Sep.start0 w
 refine rets1 Tryz.func139 rfl rfl rfl rfl ?_
 refine Sr (Am ?_)
 refine Qn (FW_seq (Sr (Mv ?_)))
 refine Qn (FW_block (Sr (Ve ?_)))
 refine Am ?_
 refine Qn (Cp rfl (fun hc5 => ?_) (fun hc5 => ?_))
 ·refine Sr (Am ?_)
  refine Qn (Rb (Qfn_ret (hR := ?_)))
  exact ⟨by unfold kindW; simp only [*, if_true, if_false]; rfl, rfl⟩
 refine Sr (Ve ?_)
 refine Am ?_
 refine Qn (Cp rfl (fun hc10 => ?_) (fun hc10 => ?_))
 ·refine Sr (Am ?_)
  refine Qn (Rb (Qfn_ret (hR := ?_)))
  exact ⟨by unfold kindW; simp only [*, if_true, if_false]; rfl, rfl⟩
 refine Sr (Ve ?_)
 refine Am ?_
 refine Qn (Cp rfl (fun hc15 => ?_) (fun hc15 => ?_))
 ·refine Sr (Am ?_)
  refine Qn (Rb (Qfn_ret (hR := ?_)))
  exact ⟨by unfold kindW; simp only [*, if_true, if_false]; rfl, rfl⟩
 refine Sr (Ve ?_)
 refine Am ?_
 refine Qn (Cp rfl (fun hc20 => ?_) (fun hc20 => ?_))
 ·refine Sr (Am ?_)
  refine Qn (Rb (Qfn_ret (hR := ?_)))
  exact ⟨by unfold kindW; simp only [*, if_true, if_false]; rfl, rfl⟩
 refine Sr (Ve ?_)
 refine Am ?_
 refine Qn (Cp rfl (fun hc25 => ?_) (fun hc25 => ?_))
 ·refine Sr (Am ?_)
  refine Qn (Rb (Qfn_ret (hR := ?_)))
  exact ⟨by unfold kindW; simp only [*, if_true, if_false]; rfl, rfl⟩
 refine FW_skip (Qblk_normal (Qseq_normal (Sr (Am ?_))))
 refine Qn (FW_ret (Qfn_ret (hR := ?_)))
 exact ⟨by unfold kindW; simp only [*, if_true, if_false]; rfl, rfl⟩
theorem hex_ok9 (l : List UInt8) (hl : l.length ≤ 1000000) : Rets Tryz.prog 138 [str l] w fun v w' => v = str (hexL l) ∧ Kept noB w w' := by
 have H := Sep.start0 w
 refine rets1 Tryz.func138 rfl rfl rfl rfl ?_
 refine Sr (Am ?_)
 refine Nx (Am ?_)
 refine Qn (FW_seq (Sr (Am ?_)))
 refine Qn (FW_block (FW_loop' (fun i : Nat => [(0, str l), (3, str (hexL (l.take i))), (4, I i)]) (fun i w' => i ≤ l.length ∧ Sep w noB [] w') (fun i _ => l.length - i) 0 ⟨rfl, rfl, rfl, trivial⟩ ⟨Nat.zero_le _, H⟩ (fun i τ w5 hI => ?_)))
 obtain ⟨hi, H5⟩ := hI
 try simp only [upds, like, upd_ds, und_ds]
 refine FW_seq (Sr (Mv ?_))
 refine Mv ?_
 refine Vt ?_
 refine Vl ?_
 refine Qn (Cp rfl (fun hc10 => ?_) (fun hc10 => ?_))
 ·have hlt : i < l.length := by omega
  obtain ⟨c, hc⟩ : ∃ c, c = l.getD i 0 := ⟨_, rfl⟩
  have hsu := hexL_succ hlt
  rw [← hc] at hsu
  have hcl := c.toNat_lt
  have hxl := hexL_length (l.take i)
  rw [List.length_take] at hxl
  refine Sk (FW_seq (FW_block (FW_drawS rfl H5 (h := fun hok12 w14 H14 => ?_))))
  refine Gm hok12 0 ?_
  refine Gm hok12 1 ?_
  refine Gm hok12 2 ?_
  refine Gp hok12 3 rfl rfl (fun _ => (Gives.idxD rfl rfl hlt)) ?_
  rw [← hc]
  refine Gp hok12 4 rfl rfl (fun _ => (Gives.quo8 (b := 16) rfl rfl (by omega) (by omega))) (Gm hok12 5 ?_)
  refine Gm hok12 6 ?_
  refine Gp hok12 7 rfl rfl (fun _ => (Gives.idxD rfl rfl hlt)) ?_
  rw [← hc]
  refine Gp hok12 8 rfl rfl (fun _ => (Gives.quo8 (b := 16) rfl rfl (by omega) (by omega))) (Gp hok12 9 rfl rfl (fun _ => (Gives.addW (c := ((c.toNat / 16 + 1 : Nat) : Int)) rfl rfl (by rw [wrapB (by omega)]; omega))) ?_)
  refine Gp hok12 10 rfl rfl (fun _ => (Gives.sliceBothT (l := hexS) (i := c.toNat / 16) (m := c.toNat / 16 + 1) rfl rfl rfl (by omega) (by show c.toNat / 16 + 1 ≤ 16; omega))) ?_
  rw [hex_piece (by omega)]
  refine Gp hok12 11 rfl rfl (fun _ => (Gives.catT rfl rfl (by first | omega | (simp; done) | (simp; omega)))) ?_
  refine Gm hok12 12 ?_
  refine Gm hok12 13 ?_
  refine Gp hok12 14 rfl rfl (fun _ => (Gives.idxD rfl rfl hlt)) ?_
  rw [← hc]
  refine Gp hok12 15 rfl rfl (fun _ => (Gives.remN (b := 16) rfl rfl (by omega))) (Gm hok12 16 ?_)
  refine Gm hok12 17 ?_
  refine Gp hok12 18 rfl rfl (fun _ => (Gives.idxD rfl rfl hlt)) ?_
  rw [← hc]
  refine Gp hok12 19 rfl rfl (fun _ => (Gives.remN (b := 16) rfl rfl (by omega))) (Gp hok12 20 rfl rfl (fun _ => (Gives.addW (c := ((c.toNat % 16 + 1 : Nat) : Int)) rfl rfl (by rw [wrapB (by omega)]; omega))) ?_)
  refine Gp hok12 21 rfl rfl (fun _ => (Gives.sliceBothT (l := hexS) (i := c.toNat % 16) (m := c.toNat % 16 + 1) rfl rfl rfl (by omega) (by show c.toNat % 16 + 1 ≤ 16; omega))) ?_
  rw [hex_piece (by omega)]
  refine Gp hok12 22 rfl rfl (fun _ => (Gives.catT rfl rfl (by first | omega | (simp; done) | (simp; omega)))) ?_
  refine FGset hok12 23 [] (h := ⟨Stab_nil, ?_⟩)
  refine FG_end hok12 (by kernel_rfl) ?_
  refine Qblk_normal (Qseq_normal (FW_region (Mv ?_)))
  refine Vv (Gives.addI rfl rfl rfl (by omega)) (Am ?_)
  refine FL_nil ?_
  exact Qround_normal (i + 1) ⟨rfl, by rw [hsu, ← List.singleton_append (l := [_]), ← List.append_assoc]; rfl, rfl, trivial⟩ ⟨by omega, H14⟩ (by omega)
 have hil : i = l.length := by omega
 refine FW_exit (Qseq_exit (Qround_exit (Qblk_exit (Qseq_normal (Sr (Mv ?_))))))
 refine Am ?_
 refine Qn (FW_ret (Qfn_ret (hR := ?_)))
 exact ⟨by rw [hil, List.take_length]; rfl, H5.kept⟩
end
def hexI (c : UInt8) : Int := match hexD c with | some d => d | none => -1
theorem hexD_lt {c : UInt8} {d : Nat} (h : hexD c = some d) : d < 16 := by
 have := c.toNat_lt
 unfold hexD at h
 split at h
 ·injection h with h; omega
 split at h
 ·injection h with h; omega
 cases h
theorem hexI_neg {c : UInt8} (h : hexI c < 0) : hexD c = none := by
 unfold hexI at h
 split at h
 ·omega
 assumption
theorem hexI_some {c : UInt8} (h : ¬ hexI c < 0) : ∃ d, hexD c = some d ∧ hexI c = d ∧ d < 16 := by
 unfold hexI at h ⊢
 cases e : hexD c with
 | none => rw [e] at h; simp at h
 | some d => exact ⟨d, rfl, rfl, hexD_lt e⟩
theorem hexI_lt (c : UInt8) : hexI c < 16 := by
 unfold hexI
 split
 ·rename_i d e; have := hexD_lt e; omega
 omega
theorem hexI_at {c : UInt8} {i : Nat} (h : i < 16) : ((hexS.getD i 0).toNat : Int) = c.toNat ↔ hexI c = i := by
 have k1 : ∀ i : Fin 16, hexI (hexS.getD i.val 0) = i.val := by decide
 constructor
 ·intro e
  have : hexS.getD i 0 = c := UInt8.toNat_inj.1 (by omega)
  rw [← this]; exact k1 ⟨i, h⟩
 intro e
 have h0 : ¬ hexI c < 0 := by omega
 obtain ⟨d, hd, he, hl⟩ := hexI_some h0
 have hdi : d = i := by omega
 subst hdi
 have k2 : ∀ d : Fin 16, (hexS.getD d.val 0).toNat = if d.val < 10 then 48 + d.val else 87 + d.val := by decide
 have k3 : (hexS.getD d 0).toNat = if d < 10 then 48 + d else 87 + d := k2 ⟨d, h⟩
 rw [k3]
 unfold hexD at hd
 split at hd
 ·injection hd with hd; split <;> omega
 split at hd
 ·injection hd with hd; split <;> omega
 cases hd
theorem hex_init (c : UInt8) : (if hexI c < ((0 : Nat) : Int) then hexI c else -1) = -1 := by
 split
 ·have := hexI_neg (by assumption)
  unfold hexI; rw [this]
 rfl
def outU : List UInt8 → List UInt8
 | a :: b :: t => ((hexD a).getD 0 * 16 + (hexD b).getD 0).toUInt8 :: outU t
 | [a] => [((hexD a).getD 0 * 16).toUInt8]
 | [] => []
theorem outU_even (c : UInt8) : ∀ l : List UInt8, l.length % 2 = 0 → outU (l ++ [c]) = outU l ++ [((hexD c).getD 0 * 16).toUInt8]
 | [], _ => rfl
 | [a], h => by simp at h
 | a :: b :: t, h => by
  show _ :: outU (t ++ [c]) = _
  rw [outU_even c t (by simp at h; omega)]; rfl
theorem hexG_lt (c : UInt8) : (hexD c).getD 0 < 16 := by
 cases e : hexD c with
 | none => simp
 | some d => exact hexD_lt e
theorem outU_odd (c : UInt8) : ∀ l : List UInt8, l.length % 2 = 1 → ∃ p x, outU l = p ++ [x] ∧ p.length = l.length / 2 ∧ x.toNat ≤ 240 ∧ outU (l ++ [c]) = p ++ [(x.toNat + (hexD c).getD 0).toUInt8]
 | [], h => by simp at h
 | [a], _ => by
  have ha := hexG_lt a
  refine ⟨[], ((hexD a).getD 0 * 16).toUInt8, rfl, by simp, ?_, ?_⟩
  ·simp; omega
  show [((hexD a).getD 0 * 16 + (hexD c).getD 0).toUInt8] = _
  congr 2
  simp; omega
 | a :: b :: t, h => by
  obtain ⟨p, x, h1, h2, h3, h4⟩ := outU_odd c t (by simp at h; omega)
  exact ⟨((hexD a).getD 0 * 16 + (hexD b).getD 0).toUInt8 :: p, x, by rw [outU, h1]; rfl, by simp; omega, h3, by show _ :: outU (t ++ [c]) = _; rw [h4]; rfl⟩
theorem outU_len : ∀ l : List UInt8, (outU l).length = (l.length + 1) / 2
 | [] => rfl
 | [a] => by simp [outU]
 | a :: b :: t => by rw [outU, List.length_cons, outU_len t]; simp; omega
theorem unhex_no : ∀ {l : List UInt8} {c : UInt8}, c ∈ l → hexD c = none → unhexGo l = none
 | [], _, h, _ => by simp at h
 | [a], _, _, _ => rfl
 | a :: b :: t, c, h, e => by
  rw [unhexGo]
  rcases List.mem_cons.1 h with rfl | h
  ·rw [e]
  rcases List.mem_cons.1 h with rfl | h
  ·rw [e]; cases hexD a <;> rfl
  rw [unhex_no h e]; cases hexD a <;> cases hexD b <;> rfl
theorem unhex_yes : ∀ {l : List UInt8}, l.length % 2 = 0 → (∀ c ∈ l, hexD c ≠ none) → unhexGo l = some (outU l)
 | [], _, _ => rfl
 | [a], h, _ => by simp at h
 | a :: b :: t, h, e => by
  rw [unhexGo, unhex_yes (l := t) (by simp at h; omega) (fun c hc => e c (by simp [hc]))]
  have ha := e a (by simp)
  have hb := e b (by simp)
  cases h1 : hexD a with
  | none => exact absurd h1 ha
  | some x => cases h2 : hexD b with
   | none => exact absurd h2 hb
   | some y => simp [outU, h1, h2]
theorem unhex_odd : ∀ {l : List UInt8}, l.length % 2 = 1 → unhexGo l = none
 | [], h => by simp at h
 | [a], _ => rfl
 | a :: b :: t, h => by
  rw [unhexGo, unhex_odd (l := t) (by simp at h; omega)]
  cases hexD a <;> cases hexD b <;> rfl
theorem take_snoc {l : List UInt8} {i : Nat} (h : i < l.length) : l.take (i + 1) = l.take i ++ [l.getD i 0] := by
 rw [List.take_add_one, List.getElem?_eq_getElem h]
 simp [List.getD_eq_getElem?_getD, List.getElem?_eq_getElem h]
theorem getD_mem {l : List UInt8} {i : Nat} (h : i < l.length) : l.getD i 0 ∈ l := by
 rw [List.getD_eq_getElem?_getD, List.getElem?_eq_getElem h]; exact List.getElem_mem h
section
variable {w : World}
theorem unhex_ok9 (l : List UInt8) (hl : l.length ≤ 1000000) : Rets Tryz.prog 147 [str l] w fun v w' => v = .tuple #[str ((unhexGo l).getD []), .bool (unhexGo l).isSome] ∧ Kept noB w w' := by
 have H := Sep.start0 w
 refine rets1 Tryz.func147 rfl rfl rfl rfl ?_
 refine Sr (Am ?_)
 refine Am ?_
 refine Qn (FW_seq (Sr (Mv ?_)))
 refine Vt ?_
 refine Vv (Gives.remN (b := 2) rfl rfl (by omega)) (Vn ?_)
 refine Qn (Cp rfl (fun hc7 => ?_) (fun hc7 => ?_))
 ·have hfin : unhexGo l = none := unhex_odd (by omega)
  refine Sr (Am ?_)
  refine Am ?_
  refine Qn (Rs (Qfn_ret (hR := ?_)))
  exact ⟨by rw [hfin]; rfl, H.kept⟩
 have hev : l.length % 2 = 0 := by omega
 refine Sk (Sr (Am ?_))
 refine Qn (FW_seq (Sr (Am ?_)))
 refine Qn (FW_block ?_)
 have H16 := Sep.nilBytes H 5
 refine FW_loop' (fun x : Nat × Value => [(0, str l), (4, x.2), (5, I x.1)]) (fun x w' => (x.1 ≤ l.length ∧ ∀ c ∈ l.take x.1, hexD c ≠ none) ∧ Sep w noB [bytesH 5 x.2 (outU (l.take x.1))] w') (fun x _ => l.length - x.1) (0, _) ⟨rfl, rfl, rfl, trivial⟩ ⟨⟨Nat.zero_le _, by simp⟩, H16⟩ (fun x τ w16 hI => ?_)
 obtain ⟨i, v1⟩ := x
 obtain ⟨⟨hi, hok⟩, H16⟩ := hI
 dsimp only at hi hok H16
 try simp only [upds, like, upd_ds, und_ds]
 refine FW_seq (Sr (Mv ?_))
 refine Mv ?_
 refine Vt ?_
 refine Vl ?_
 refine Qn (Cp rfl (fun hc21 => ?_) (fun hc21 => ?_))
 ·have hlt : i < l.length := by omega
  obtain ⟨c, hc⟩ : ∃ c, c = l.getD i 0 := ⟨_, rfl⟩
  have hts := take_snoc hlt
  have hme := getD_mem hlt
  rw [← hc] at hts hme
  have hol := outU_len (l.take i)
  have htl : (l.take i).length = i := by rw [List.length_take]; omega
  rw [htl] at hol
  have hcl := c.toNat_lt
  refine Sk (FW_seq (FW_block (Sr (Am ?_))))
  refine Qn (FW_seq (Sr (Am ?_)))
  refine Qn (FW_block (FW_loop' (fun k : Nat => [(0, str l), (4, v1), (5, I i), (6, I (if hexI c < (k : Int) then hexI c else -1)), (7, I k)]) (fun k w' => k ≤ 16 ∧ Sep w noB [bytesH 5 v1 (outU (l.take i))] w') (fun k _ => 16 - k) 0 ⟨rfl, rfl, rfl, by rw [hex_init]; rfl, rfl, trivial⟩ ⟨Nat.zero_le _, H16⟩ (fun k τ w26 hI => ?_)))
  obtain ⟨hk, H26⟩ := hI
  try simp only [upds, like, upd_ds]
  refine FW_seq (Sr (Mv ?_))
  refine Vl ?_
  refine Qn (Cp rfl (fun hc29 => ?_) (fun hc29 => ?_))
  ·have hk16 : k < 16 := by omega
   have hat := hexI_at (c := c) hk16
   refine Sk (FW_seq (FW_block (FW_seq (FW_drawS rfl H26 (h := fun hok31 w33 H33 => ?_)))))
   refine Gm hok31 0 ?_
   refine Gp hok31 1 rfl rfl (fun _ => (Gives.idxD (l := hexS) rfl rfl hk16)) (Gm hok31 2 ?_)
   refine Gm hok31 3 ?_
   refine Gp hok31 4 rfl rfl (fun _ => (Gives.idxD rfl rfl hlt)) ?_
   rw [← hc]
   refine Gp hok31 5 rfl rfl (fun _ => (Gives.eql rfl rfl)) (FG_end hok31 (by kernel_rfl) ?_)
   refine Qseq_normal (Cp rfl (fun hc37 => ?_) (fun hc37 => ?_))
   ·have hsame : (if hexI c < ((k + 1 : Nat) : Int) then hexI c else -1) = k := by have := hat.1 hc37; rw [if_pos (by omega)]; exact this
    refine FW_region (Mv ?_)
    refine Am ?_
    refine FL_nil (Qblk_normal (Qseq_normal (FW_region (Mv ?_))))
    refine Vv (Gives.addI rfl rfl rfl (by omega)) (Am ?_)
    refine FL_nil ?_
    exact Qround_normal (k + 1) ⟨rfl, rfl, rfl, by rw [hsame]; rfl, rfl, trivial⟩ ⟨by omega, H33⟩ (by omega)
   have hsame : (if hexI c < ((k + 1 : Nat) : Int) then hexI c else -1) = (if hexI c < (k : Int) then hexI c else -1) := by
    have : hexI c ≠ k := fun e => hc37 (hat.2 e)
    by_cases h : hexI c < k
    ·rw [if_pos h, if_pos (by omega)]
    rw [if_neg h, if_neg (by omega)]
   refine FW_skip (Qblk_normal (Qseq_normal (FW_region (Mv ?_))))
   refine Vv (Gives.addI rfl rfl rfl (by omega)) (Am ?_)
   refine FL_nil ?_
   exact Qround_normal (k + 1) ⟨rfl, rfl, rfl, by rw [hsame]; rfl, rfl, trivial⟩ ⟨by omega, H33⟩ (by omega)
  have hval : (if hexI c < (k : Int) then hexI c else -1) = hexI c := if_pos (by have := hexI_lt c; omega)
  rw [hval]
  refine FW_exit (Qseq_exit (Qround_exit (Qblk_exit (Qseq_normal (FW_seq (Sr (Mv ?_)))))))
  refine Vl ?_
  refine Qn (Cp rfl (fun hc53 => ?_) (fun hc53 => ?_))
  ·have hfin : unhexGo l = none := unhex_no hme (hexI_neg hc53)
   refine Sr (Am ?_)
   refine Am ?_
   refine Qn (Rs (Qblk_ret (Qseq_ret (Qround_ret (Qblk_ret (Qseq_ret (Qfn_ret (hR := ?_))))))))
   exact ⟨by rw [hfin]; rfl, H26.kept⟩
  obtain ⟨d, hd, hdI, hd16⟩ := hexI_some hc53
  rw [hdI]
  have hok' : ∀ c' ∈ l.take (i + 1), hexD c' ≠ none := by
   intro c' hc'
   rw [hts] at hc'
   rcases List.mem_append.1 hc' with h | h
   ·exact hok c' h
   rw [List.mem_singleton.1 h, hd]; simp
  refine Sk (Sr (Mv ?_))
  refine Vv (Gives.remN (b := 2) rfl rfl (by omega)) (Ve ?_)
  refine Qn (Cp rfl (fun hc62 => ?_) (fun hc62 => ?_))
  ·have hev2 := outU_even c (l.take i) (by rw [htl]; omega)
   rw [← hts, hd, show ((some d).getD 0 * 16).toUInt8 = (16 * (d : Int)).toNat.toUInt8 by simp only [Option.getD_some]; congr 1; omega] at hev2
   refine FW_region (Mv ?_)
   refine Mv ?_
   refine Vv (Gives.mulI rfl rfl rfl (by omega)) (Vv (Gives.convU8 (a := 16 * (d : Int)) rfl (by omega)) ?_)
   refine FL_buildSlice H26 (xs := [.tmp 37]) (out := [((16 * (d : Int)).toNat.toUInt8)].map B) (Elems.one rfl rfl Elems.nil) rfl rfl rfl (fun b w69 H69 _ => ?_)
   refine FL_appendB H69 (news := [((16 * (d : Int)).toNat.toUInt8)]) At0 (by simp; omega) (h := fun v2 w71 H71 => ?_)
   refine Am ?_
   refine FL_nil (Qblk_normal (Qseq_normal (FW_region (Mv ?_))))
   refine Vv (Gives.addI rfl rfl rfl (by omega)) (Am ?_)
   refine FL_nil ?_
   exact Qround_normal (i + 1, v2) ⟨rfl, rfl, rfl, trivial⟩ ⟨⟨by dsimp only; omega, hok'⟩, by dsimp only; rw [hev2]; exact H71⟩ (by dsimp only; omega)
  obtain ⟨p, x, hp1, hp2, hx, hp3⟩ := outU_odd c (l.take i) (by rw [htl]; omega)
  rw [← hts, hd, Option.getD_some] at hp3
  have hl2 : (p ++ [(x.toNat + d).toUInt8]).length = (p ++ [x]).length := by simp
  rw [htl] at hp2
  rw [hp1] at H26
  obtain ⟨g, cg, rest, hg2, hcg, hlg, hle, hmx, H78⟩ := Sep.rowOpen H26 At0 (by simp)
  subst hg2
  have hget : ((p ++ [x]).map B ++ rest)[i / 2]? = some (B x) := by
   rw [List.getElem?_append_left (by simp; omega), List.map_append, List.getElem?_append_right (by simp; omega)]
   simp [hp2]
  refine FW_region (Mv ?_)
  refine Mv ?_
  refine Vv (Gives.quoN (b := 2) rfl rfl (by omega) (by omega)) (Mv ?_)
  refine Mv ?_
  refine Vv (Gives.quoN (b := 2) rfl rfl (by omega) (by omega)) (Vv (Gives.idxB (i := i / 2) rfl rfl (by simp; omega)) ?_)
  refine FL_load H78 (hat := At0) (hv := hget) (h := ?_)
  refine Mv ?_
  refine Vv (Gives.convW (k := .u8) (c := (d : Int)) rfl (wrapB (by omega))) (Vv (Gives.addW (c := ((x.toNat + d).toUInt8.toNat : Int)) rfl rfl (by rw [wrapB (by omega)]; simp; omega)) ?_)
  refine Vv (Gives.idxB (i := i / 2) rfl rfl (by simp; omega)) ?_
  have hset : ((p ++ [x]).map B ++ rest).set (i / 2) (B (x.toNat + d).toUInt8) = (p ++ [(x.toNat + d).toUInt8]).map B ++ rest := by
   rw [set_front (by simp; omega), List.map_append, List.set_append_right _ _ (by simp; omega)]
   simp [hp2]
  refine FL_store H78 (hy := by exact rfl) (hat := At0) (ho := by rw [List.length_append, List.length_map]; exact Nat.ble_eq_true_of_le (by simp; omega)) (hs := hset) (h := fun w92 H92 => ?_)
  refine FL_nil (Qblk_normal (Qseq_normal (FW_region (Mv ?_))))
  refine Vv (Gives.addI rfl rfl rfl (by omega)) (Am ?_)
  refine FL_nil ?_
  exact Qround_normal (i + 1, .slice (some ⟨g, 0, none⟩) (p ++ [x]).length cg) ⟨rfl, rfl, rfl, trivial⟩ ⟨⟨by dsimp only; omega, hok'⟩, by dsimp only; rw [hp3]; unfold bytesH; rw [hl2]; refine Sep.rowShut H92 At0 ?_ ?_ hle hmx <;> simp at * <;> omega⟩ (by dsimp only; omega)
 have hil : i = l.length := by omega
 rw [hil, List.take_length] at hok H16
 have hfin : unhexGo l = some (outU l) := unhex_yes hev hok
 refine FW_exit (Qseq_exit (Qround_exit (Qblk_exit (Qseq_normal (Sr (Mv ?_))))))
 refine Vv (Gives.bytesO H16 At0 rfl) (Am ?_)
 refine Am ?_
 refine Qn (FW_ret (Qfn_ret (hR := ?_)))
 exact ⟨by rw [hfin]; rfl, H16.kept⟩
end
end Go.Proofs.YtmkaahkbhdlniaaGreatDoor
namespace Go.Mw
open Go.RowKit
def adr (A : Option Addr) (o : Nat) : Value := .pointer (A.map (·.add o))
class EncK {α : Type} (enc : α → List Value) (k : outParam Nat) : Prop where
 len : ∀ x, (enc x).length = k
def Rd {α : Type} (w : World) (A : Option Addr) (enc : α → List Value) (k : Nat) (l : List α) : Prop := RowAt w A l.length k (l.flatMap enc)
section
variable {α : Type} {enc : α → List Value} {k : Nat} {l : List α} {A : Option Addr} {w w' w₀ : World}
theorem flat_get (hk : ∀ x, (enc x).length = k) : ∀ {l : List α} {i j : Nat} {c : α}, l[i]? = some c → j < k → (l.flatMap enc)[i * k + j]? = (enc c)[j]?
 | [], _, _, _, h, _ => by simp at h
 | a :: l, 0, j, c, h, hj => by
  simp only [List.getElem?_cons_zero, Option.some.injEq] at h
  subst h
  rw [List.flatMap_cons, Nat.zero_mul, Nat.zero_add, List.getElem?_append_left (by rw [hk]; exact hj)]
 | a :: l, i + 1, j, c, h, hj => by
  simp only [List.getElem?_cons_succ] at h
  rw [List.flatMap_cons, List.getElem?_append_right (by rw [hk, Nat.succ_mul]; omega), hk, Nat.succ_mul]
  rw [show i * k + k + j - k = i * k + j by omega]
  exact flat_get hk h hj
theorem flat_len (hk : ∀ x, (enc x).length = k) : ∀ l : List α, (l.flatMap enc).length = l.length * k
 | [] => by simp
 | a :: l => by rw [List.flatMap_cons, List.length_append, hk, flat_len hk l, List.length_cons, Nat.succ_mul]; omega
theorem Rd.keep (h : Rd w A enc k l) (hk : Kept noB w w') : Rd w' A enc k l := RowAt.keep h hk
theorem Rd.addr (h : Rd w A enc k l) (hn : 0 < l.length) : ∃ ad, A = some ad := by
 obtain ⟨ad, h1, _⟩ := h.at_ hn
 exact ⟨ad, h1⟩
theorem get_lt {i : Nat} {c : α} (h : l[i]? = some c) : i < l.length := (List.getElem?_eq_some_iff.1 h).1
theorem Rd.cell [hk : EncK enc k] {i f : Nat} {c : α} {v : Value} (h : Rd w A enc k l) (hg : l[i]? = some c) (hv : (enc c)[f]? = some v) : ∃ ad, A = some ad ∧ w.cell? (ad.add (i * k + f)) = some v := by
 have hl := get_lt hg
 obtain ⟨ad, h1, h2⟩ := h.at_ (by omega)
 refine ⟨ad, h1, h2 _ _ ?_⟩
 rw [flat_get hk.len hg (by rw [← hk.len c]; exact get_lt hv)]
 exact hv
end
section
variable {P : Program} {ρ : Operand → Value} {ty : TypeId} {w w₀ : World} {x y : Operand} {α : Type} {enc : α → List Value} {k : Nat} {l : List α} {A : Option Addr} {rs : List HP}
theorem Gives.idxR {t e : TypeId} [ht : IsSlice P t e] {bytes : Nat} [hc : Cells P e k bytes] {c i : Nat} {j : IntKind} (hx : ρ x = .slice A l.length c) (hy : ρ y = .int j i) (hr : Rd w₀ A enc k l) (hlt : i < l.length) : Gives P ρ (.indexAddr t x y) ty w (adr A (i * k)) w := by
 obtain ⟨ad, rfl⟩ := hr.addr (by omega)
 exact Gives.idx hx hy hlt
theorem Gives.fieldR {s f g o : Nat} [h : FieldAt P s f g] (hx : ρ x = adr A o) (hr : Rd w₀ A enc k l) (hlt : 0 < l.length) : Gives P ρ (.fieldAddr s x f) ty w (adr A (o + g)) w := by
 obtain ⟨ad, rfl⟩ := hr.addr hlt
 exact Gives.fieldA hx
theorem Gives.loadE [hk : EncK enc k] {i f : Nat} {c : α} {v : Value} {T : TypeId} [OneCell P T] (hx : ρ x = adr A (i * k + f)) (H : Sep w₀ noB rs w) (hr : Rd w₀ A enc k l) (hg : l[i]? = some c) (hv : (enc c)[f]? = some v) : Gives P ρ (.load T x) ty w v w := by
 obtain ⟨ad, rfl, h2⟩ := (hr.keep H.kept).cell hg hv
 exact Gives.loadC hx h2
theorem Gives.loadE1 [hk : EncK enc k] {i : Nat} {c : α} {v : Value} {T : TypeId} [OneCell P T] (hx : ρ x = adr A (i * k)) (H : Sep w₀ noB rs w) (hr : Rd w₀ A enc k l) (hg : l[i]? = some c) (hv : (enc c)[0]? = some v) : Gives P ρ (.load T x) ty w v w :=
 Gives.loadE (f := 0) hx H hr hg hv
theorem Gives.loadEN [hk : EncK enc k] {i f n : Nat} {c : α} {us : List Value} {T : TypeId} [Agg P T n] (hx : ρ x = adr A (i * k + f)) (H : Sep w₀ noB rs w) (hr : Rd w₀ A enc k l) (hg : l[i]? = some c) (hu : ((enc c).drop f).take n = us) (hn : us.length = n) : Gives P ρ (.load T x) ty w (.agg us.toArray) w := by
 obtain ⟨ad, h1⟩ := hr.addr (by have := get_lt hg; omega)
 subst h1
 refine Gives.loadCN (a := ad.add (i * k + f)) hx (fun j u hj => ?_) hn
 have hv : (enc c)[f + j]? = some u := by
  rw [← hu, List.getElem?_take] at hj
  split at hj
  ·rw [List.getElem?_drop] at hj; exact hj
  cases hj
 obtain ⟨ad', h1, h2⟩ := (hr.keep H.kept).cell hg hv
 injection h1 with h1
 subst h1
 rw [add_add, Nat.add_assoc]; exact h2
theorem Gives.loadE0 [hk : EncK enc k] {i : Nat} {c : α} {T : TypeId} [Agg P T k] (hx : ρ x = adr A (i * k)) (H : Sep w₀ noB rs w) (hr : Rd w₀ A enc k l) (hg : l[i]? = some c) : Gives P ρ (.load T x) ty w (.agg (enc c).toArray) w :=
 Gives.loadEN (f := 0) hx H hr hg (by rw [List.drop_zero, ← hk.len c, List.take_length]) (hk.len c)
end
section
variable {P : Program} {w w₀ : World} {S : Nat → Prop} {rs : List HP} {put : HP → List HP} {σ : St} {R : Value → World → Prop} {us : List Value} {a b k E : Nat} {T : TypeId}
theorem resC1 [Agg P T k] (H : Sep w₀ S rs w) (hx : σ a = .pointer (some ⟨b, 0, none⟩) := by exact rfl) (hat : At rs (blk b us E) put := by first | exact At0 | exact At1 | exact At2 | exact At3 | exact At4 | exact At5 | exact At6 | exact At7 | exact At8 | exact At9) (hk : us.length = k := by exact rfl) :
    ResAll P σ w [.cell a T] [.agg us.toArray] :=
  ⟨_, _, _, rfl, hx, loadVar_blkN (k := k) (H.obj hat) (us := us) (by rw [List.drop_zero, ← hk, List.take_length]) hk, rfl⟩
theorem resC2 [Agg P T k] {t : Nat} {v : Value} (H : Sep w₀ S rs w) (hx : σ a = .pointer (some ⟨b, 0, none⟩) := by exact rfl) (hat : At rs (blk b us E) put := by first | exact At0 | exact At1 | exact At2 | exact At3 | exact At4 | exact At5 | exact At6 | exact At7 | exact At8 | exact At9) (hk : us.length = k := by exact rfl) (hv : σ t = v := by exact rfl) :
    ResAll P σ w [.cell a T, .tmp t] [.agg us.toArray, v] :=
  ⟨_, _, _, rfl, hx, loadVar_blkN (k := k) (H.obj hat) (us := us) (by rw [List.drop_zero, ← hk, List.take_length]) hk, _, by subst hv; rfl, rfl⟩
end
end Go.Mw
namespace Go.Proofs.YtmkaahkbhdlniaaGreatDoor
open Go Go.Mw
instance : EncK typeCells 2 := ⟨fun _ => rfl⟩
instance : EncK cellCells 3 := ⟨fun _ => rfl⟩
instance : EncK stepCells 3 := ⟨fun _ => rfl⟩
instance : EncK colCells 7 := ⟨fun _ => rfl⟩
def RowIn {α : Type} (w : World) (v : Value) (enc : α → List Value) (k : Nat) (l : List α) : Prop := ∃ A c, v = .slice A l.length c ∧ (l.length ≤ c ∧ c ≤ 9223372036854775807) ∧ Rd w A enc k l
theorem RowIn.keep {α : Type} {w w' : World} {v : Value} {enc : α → List Value} {k : Nat} {l : List α} (h : RowIn w v enc k l) (hk : Kept noB w w') : RowIn w' v enc k l := by
 obtain ⟨A, c, h1, h2, h3⟩ := h
 exact ⟨A, c, h1, h2, h3.keep hk⟩
end Go.Proofs.YtmkaahkbhdlniaaGreatDoor
namespace Go.Proofs.YtmkaahkbhdlniaaGreatDoor
open Go Go.Mw Go.Lib
set_option maxRecDepth 4000
def rowAtC (cols : List ColM) (r : List CellM) (i : Nat) : Int := ((((cols.zip r).drop i).map fun p => checkC p.1.type p.2).find? (fun e => decide (e ≠ 0))).getD 0
theorem rowCheck_at {cols : List ColM} {r : List CellM} (h : cols.length = r.length) : rowCheck cols r = rowAtC cols r 0 := by
 unfold rowCheck rowAtC
 rw [if_neg (by omega), List.drop_zero]
theorem rowAtC_end {cols : List ColM} {r : List CellM} {i : Nat} (h : r.length ≤ i) : rowAtC cols r i = 0 := by
 unfold rowAtC
 rw [List.drop_of_length_le (by rw [List.length_zip]; omega)]; rfl
theorem rowAtC_step {cols : List ColM} {r : List CellM} {i : Nat} {a : ColM} {c : CellM} (ha : cols[i]? = some a) (hc : r[i]? = some c) : rowAtC cols r i = if checkC a.type c ≠ 0 then checkC a.type c else rowAtC cols r (i + 1) := by
 have hz : (cols.zip r)[i]? = some (a, c) := by rw [List.getElem?_zip_eq_some]; exact ⟨ha, hc⟩
 have hl := get_lt hz
 unfold rowAtC
 rw [List.drop_eq_getElem_cons hl]
 have he : (cols.zip r)[i] = (a, c) := by rw [List.getElem?_eq_getElem hl] at hz; injection hz
 rw [he, List.map_cons, List.find?_cons]
 by_cases h : checkC a.type c = 0 <;> simp [h]
theorem get_some {α : Type} {l : List α} {i : Nat} (h : i < l.length) : ∃ c, l[i]? = some c := ⟨l[i], List.getElem?_eq_getElem h⟩
attribute [local irreducible] checkC
section
variable {w : World}
theorem check_ok10 {cols : List ColM} {r : List CellM} {vc vr : Value} (hc : RowIn w vc colCells 7 cols) (hr : RowIn w vr cellCells 3 r) : Rets Tryz.prog 55 [vc, vr] w fun v w' => v = I (rowCheck cols r) ∧ Kept noB w w' := by
 obtain ⟨A, m, rfl, ⟨hm, hm'⟩, hA⟩ := hc
 obtain ⟨C, n, rfl, ⟨hn, hn'⟩, hC⟩ := hr
 have H := Sep.start0 w
 refine rets2 Tryz.func55 rfl rfl rfl rfl ?_
 refine Sr (Am ?_)
 refine Qn (FW_seq (Sr (Mv ?_)))
 refine Vs ?_
 refine Mv ?_
 refine Vs ?_
 refine Vn ?_
 refine Qn (Cp rfl (fun hc7 => ?_) (fun hc7 => ?_))
 ·have hfin : rowCheck cols r = 100 := if_pos (by omega)
  refine Sr (Am ?_)
  refine Qn (Rs (Qfn_ret (hR := ?_)))
  exact ⟨by rw [hfin]; rfl, H.kept⟩
 have hlen : cols.length = r.length := by omega
 have hrc := rowCheck_at hlen
 refine Sk (FW_seq (Sr (Am ?_)))
 refine Qn (FW_block (FW_loop' (fun i : Nat => [(0, .slice A cols.length m), (1, .slice C r.length n), (5, I i)]) (fun i w' => (i ≤ r.length ∧ rowCheck cols r = rowAtC cols r i) ∧ Sep w noB [] w') (fun i _ => r.length - i) 0 ⟨rfl, rfl, rfl, trivial⟩ ⟨⟨Nat.zero_le _, hrc⟩, H⟩ (fun i τ w14 hI => ?_)))
 obtain ⟨⟨hi, hst⟩, H14⟩ := hI
 try simp only [upds, like, upd_ds, und_ds]
 refine FW_seq (Sr (Mv ?_))
 refine Mv ?_
 refine Vs ?_
 refine Vl ?_
 refine Qn (Cp rfl (fun hc19 => ?_) (fun hc19 => ?_))
 ·have hlt : i < r.length := by omega
  have hltc : i < cols.length := by omega
  obtain ⟨a, ha⟩ := get_some hltc
  obtain ⟨c, hc⟩ := get_some hlt
  have hsp := rowAtC_step ha hc
  refine Sk (FW_seq (FW_block (FW_seq (FW_drawS rfl H14 (h := fun hok21 w23 H23 => ?_)))))
  refine Gm hok21 0 ?_
  refine Gm hok21 1 ?_
  refine Gp hok21 2 rfl rfl (fun _ => (Gives.idxR rfl rfl (by assumption) (by omega))) (Gp hok21 3 rfl rfl (fun _ => (Gives.fieldR rfl (by assumption) (by omega))) ?_)
  refine Gl hok21 4 rfl rfl (Gives.loadEN (us := typeCells _) rfl H23 (by assumption) (by assumption) rfl rfl) (Gm hok21 5 ?_)
  refine Gm hok21 6 ?_
  refine Gp hok21 7 rfl rfl (fun _ => (Gives.idxR rfl rfl (by assumption) (by omega))) (Gl hok21 8 rfl rfl (Gives.loadE0 rfl H23 (by assumption) (by assumption)) ?_)
  refine FGcallQ hok21 9 [] H23 (check_ok9 a.type c) (h := fun w30 H30 k29 => ⟨Stab_nil, ?_⟩)
  refine Gp hok21 10 rfl rfl (fun _ => Gives.assign rfl) (FG_end hok21 (by kernel_rfl) ?_)
  refine Qseq_normal (Sr (Mv ?_))
  refine Vn ?_
  refine Qn (Cp rfl (fun hc34 => ?_) (fun hc34 => ?_))
  ·have hfin : rowCheck cols r = checkC a.type c := by rw [hst, hsp, if_pos hc34]
   refine Sr (Mv ?_)
   refine Am ?_
   refine Qn (Rb (Qround_ret (Qblk_ret (Qseq_ret (Qfn_ret (hR := ?_))))))
   exact ⟨by rw [hfin]; rfl, H30.kept⟩
  have hst' : rowCheck cols r = rowAtC cols r (i + 1) := by rw [hst, hsp, if_neg hc34]
  refine FW_skip (Qblk_normal (Qseq_normal (FW_region (Mv ?_))))
  refine Vv (Gives.addI rfl rfl rfl (by omega)) (Am ?_)
  refine FL_nil ?_
  exact Qround_normal (i + 1) ⟨rfl, rfl, rfl, trivial⟩ ⟨⟨by omega, hst'⟩, H30⟩ (by omega)
 have hfin : rowCheck cols r = 0 := hst.trans (rowAtC_end (by omega))
 refine FW_exit (Qseq_exit (Qround_exit (Qblk_exit (Qseq_normal (Sr (Am ?_))))))
 refine Qn (FW_ret (Qfn_ret (hR := ?_)))
 exact ⟨by rw [hfin]; rfl, H14.kept⟩
end
end Go.Proofs.YtmkaahkbhdlniaaGreatDoor
