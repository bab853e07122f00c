/-
 The document's step of a word, walked.
-/
import Derived.Test.YtolaedhdjcnijaaGreatDoorKx13
set_option linter.unusedVariables false
set_option linter.unusedSimpArgs false
namespace Go.Proofs.YtolaedhdjcnijaaGreatDoor
open Go Go.Mw Go.Lib
set_option maxRecDepth 4000
theorem head_get {w : List UInt8} {c : UInt8} (h : 0 < w.length) : w.head? = some c ↔ w.getD 0 0 = c := by
 cases w with
 | nil => simp at h
 | cons a r => simp
theorem nulls_none {w : List UInt8} (h : ∀ k : Int, 1 ≤ k → k < 6 → nullWord k ≠ w) : [1, 2, 3, 4, 5].find? (fun k : Int => decide (nullWord k = w)) = none := by
 rw [List.find?_eq_none]
 intro k hk
 simp only [List.mem_cons, List.not_mem_nil, or_false] at hk
 have := h k (by omega) (by omega)
 simpa using this
theorem nulls_some {w : List UInt8} {k : Int} (h1 : 1 ≤ k) (h5 : k ≤ 5) (h : ∀ j : Int, 1 ≤ j → j < k → nullWord j ≠ w) (hk : nullWord k = w) : [1, 2, 3, 4, 5].find? (fun k : Int => decide (nullWord k = w)) = some k := by
 have hd : ∀ j : Int, 1 ≤ j → j < k → decide (nullWord j = w) = false := fun j a b => decide_eq_false (h j a b)
 have hk' : decide (nullWord k = w) = true := decide_eq_true hk
 rcases (by omega : k = 1 ∨ k = 2 ∨ k = 3 ∨ k = 4 ∨ k = 5) with e | e | e | e | e <;> subst e
 ·simp only [List.find?_cons, hk']
 ·simp only [List.find?_cons, hd 1 (by omega) (by omega), hk']
 ·simp only [List.find?_cons, hd 1 (by omega) (by omega), hd 2 (by omega) (by omega), hk']
 ·simp only [List.find?_cons, hd 1 (by omega) (by omega), hd 2 (by omega) (by omega), hd 3 (by omega) (by omega), hk']
 simp only [List.find?_cons, hd 1 (by omega) (by omega), hd 2 (by omega) (by omega), hd 3 (by omega) (by omega), hd 4 (by omega) (by omega), hk']
theorem null_word {k : Int} (h1 : 1 ≤ k) (h5 : k ≤ 5) : [110, 117, 108, 108, 58] ++ kindW k = nullWord k := by
 rcases (by omega : k = 1 ∨ k = 2 ∨ k = 3 ∨ k = 4 ∨ k = 5) with e | e | e | e | e <;> subst e <;> rfl
theorem sign_word {k : Nat} (h : k < 12) : wordS ⟨7 + k, 0, []⟩ = signsW.getD k [] ∧ mayS ⟨7 + k, 0, []⟩ = true := by
 have key : ∀ i : Fin 12, wordS ⟨7 + i.val, 0, []⟩ = signsW.getD i.val [] ∧ mayS ⟨7 + i.val, 0, []⟩ = true := by decide
 exact key ⟨k, h⟩
theorem sign_at {k : Nat} (h : k < 12) : signsW[k]? = some (signsW.getD k []) := by
 rw [List.getD_eq_getElem?_getD, List.getElem?_eq_getElem (show k < signsW.length from h)]; rfl
attribute [local irreducible] wholeL unqL unhexGo nullWord kindW mayS wordS
section
variable {w : World}
theorem step_ok22 (s : List UInt8) (hl : s.length ≤ 1000000) : Rets Tryz.prog 141 [str s] w fun v w' => v = agg (stepCells (stepW s)) ∧ Kept noB w w' := by
 have H := Sep.start0 w
 obtain ⟨res, hres⟩ : ∃ res, res = stepW s := ⟨_, rfl⟩
 rw [← hres]
 unfold stepW at hres
 refine retsC1 Tryz.func141 rfl rfl rfl rfl ?_
 refine Sr (FL_alloc H (h := fun b1 w2 H2 k1 => ?_))
 refine Qn (FW_seq (Sr (Mv ?_)))
 refine FL_callS (whole_ok9 s (by omega)) (h := ?_)
 refine Mv ?_
 refine Vx ?_
 refine Vx ?_
 refine Am ?_
 refine Am ?_
 refine Nx (Mv ?_)
 refine Qn (Cd rfl (fun hc11 => ?_) (fun hc11 => ?_))
 ·rw [if_pos hc11] at hres
  refine Sr (Mv ?_)
  refine Vv (Gives.build (out := stepCells ⟨2, (wholeL s).1, []⟩) (Fills.one rfl rfl rfl (by simp) rfl (Fills.one rfl rfl rfl (by simp) rfl Fills.nil))) (FL_storeAll H2 (h := fun w16 H16 => ?_))
  refine Qn (Rs (QfnC_ret (h := ?_)))
  exact ⟨_, resC1 H16, by rw [hres]; rfl, H16.kept⟩
 rw [if_neg (by rw [hc11]; simp)] at hres
 refine Sk (FW_seq (Sr (Mv ?_)))
 refine Vt ?_
 refine Vg ?_
 refine Mv ?_
 refine FL_splitP (t := 25) rfl (fun hs23 => ?_) (fun hs23 => ?_)
 ·refine On (Mv ?_)
  refine On (Vv (Gives.idxD (i := 0) rfl rfl (by omega)) (On ?_))
  refine Ve ?_
  refine Pt ?_
  refine Qn (Cp rfl (fun hc28 => ?_) (fun hc28 => ?_))
  ·have hh := (head_get (w := s) (c := 35) (by omega)).2 (UInt8.toNat_inj.1 (by show (s.getD 0 0).toNat = 35; omega))
   rw [if_pos ⟨by omega, hh⟩] at hres
   refine Sr (Mv ?_)
   refine Vv (Gives.sliceFromT (i := 1) rfl rfl (by omega)) (FL_callS (whole_ok9 (s.drop 1) (by rw [List.length_drop]; omega)) (h := ?_))
   refine Mv ?_
   refine Vx ?_
   refine Vx ?_
   refine Am ?_
   refine Am ?_
   refine Nx (Mv ?_)
   refine Vv (Gives.build (out := stepCells ⟨1, (wholeL (s.drop 1)).1, []⟩) (Fills.one rfl rfl rfl (by simp) rfl (Fills.one rfl rfl rfl (by simp) rfl Fills.nil))) (FL_storeAll H2 (h := fun w41 H41 => ?_))
   refine Qn (Rs (QfnC_ret (h := ?_)))
   exact ⟨_, resC1 H41, by rw [hres]; rfl, H41.kept⟩
  have hh : ¬ (1 < s.length ∧ s.head? = some 35) := fun h => by
   have := (head_get (w := s) (c := 35) (by omega)).1 h.2
   rw [this] at hc28; exact hc28 rfl
  rw [if_neg hh] at hres
  refine Sk (FW_seq (Sr (Mv ?_)))
  refine Vt ?_
  refine Vg ?_
  refine Mv ?_
  refine FL_splitP (t := 41) rfl (fun hs48 => ?_) (fun hs48 => ?_)
  ·refine On (Mv ?_)
   refine On (Vv (Gives.idxD (i := 0) rfl rfl (by omega)) (On ?_))
   refine Ve ?_
   refine Pt ?_
   refine Qn (Cp rfl (fun hc53 => ?_) (fun hc53 => ?_))
   ·have hh := (head_get (w := s) (c := 34) (by omega)).2 (UInt8.toNat_inj.1 (by show (s.getD 0 0).toNat = 34; omega))
    rw [if_pos hh] at hres
    refine Sr (Mv ?_)
    refine FL_callQ H2 (unquote_ok4 s (by omega)) (h := fun w57 H57 k56 => ?_)
    refine Mv ?_
    refine Vx ?_
    refine Vx ?_
    refine Vx ?_
    refine Am ?_
    refine Am ?_
    refine Am ?_
    refine Nx (Mv ?_)
    refine Vv (Gives.build (out := stepCells ⟨4, 0, (unqL s).1⟩) (Fills.one rfl rfl rfl (by simp) rfl (Fills.one rfl rfl rfl (by simp) rfl Fills.nil))) (FL_storeAll H57 (h := fun w68 H68 => ?_))
    refine Qn (Rs (QfnC_ret (h := ?_)))
    exact ⟨_, resC1 H68, by rw [hres]; rfl, H68.kept⟩
   have hh : ¬ (s.head? = some 34) := fun h => by
    have := (head_get (w := s) (c := 34) (by omega)).1 h
    rw [this] at hc53; exact hc53 rfl
   rw [if_neg hh] at hres
   refine Sk ?_
   refine FW_cut (fun _ : Unit => [(0, str s), (2, .pointer (some ⟨b1, 0, none⟩))]) (fun _ w' => res = (match signsW.findIdx? (fun x => decide (x = s)) with
   | some i => ⟨7 + i, 0, []⟩
   | none => match [1, 2, 3, 4, 5].find? (fun k : Int => decide (nullWord k = s)) with
    | some k => ⟨6, k, []⟩
    | none => if s = trueW then ⟨3, 1, []⟩ else ⟨3, 0, []⟩) ∧ Sep w noB [blk b1 (stepCells ⟨0, 0, []⟩) 60] w') ?_ ?_
   ·refine Sr (Mv ?_)
    refine Vt ?_
    refine Vg ?_
    refine Mv ?_
    refine FL_splitP (t := 57) rfl (fun hs76 => ?_) (fun hs76 => ?_)
    ·refine On (Mv ?_)
     refine On (Vv (Gives.idxD (i := 0) rfl rfl (by omega)) (On ?_))
     refine Ve ?_
     refine Pt ?_
     refine Qn (Cp rfl (fun hc81 => ?_) (fun hc81 => ?_))
     ·have hh := (head_get (w := s) (c := 120) (by omega)).2 (UInt8.toNat_inj.1 (by show (s.getD 0 0).toNat = 120; omega))
      rw [if_pos hh] at hres
      refine Sr (Mv ?_)
      refine Vv (Gives.sliceFromT (i := 1) rfl rfl (by omega)) (FL_callQ H2 (unhex_ok9 (s.drop 1) (by rw [List.length_drop]; omega)) (h := fun w86 H86 k85 => ?_))
      refine Mv ?_
      refine Vx ?_
      refine Vx ?_
      refine Am ?_
      refine Am ?_
      refine Nx (Mv ?_)
      refine Vv (Gives.build (out := stepCells ⟨5, 0, (unhexGo (s.drop 1)).getD []⟩) (Fills.one rfl rfl rfl (by simp) rfl (Fills.one rfl rfl rfl (by simp) rfl Fills.nil))) (FL_storeAll H86 (h := fun w95 H95 => ?_))
      refine Qn (FW_ret (Qcut_ret (QfnC_ret (h := ?_))))
      exact ⟨_, resC1 H95, by rw [hres]; rfl, H95.kept⟩
     have hh : ¬ (s.head? = some 120) := fun h => by
      have := (head_get (w := s) (c := 120) (by omega)).1 h
      rw [this] at hc81; exact hc81 rfl
     rw [if_neg hh] at hres
     refine FW_skip ?_
     exact Qcut_normal () ⟨rfl, rfl, trivial⟩ ⟨hres, H2⟩
    have hs0 : s = [] := List.eq_nil_of_length_eq_zero (by omega)
    rw [if_neg (by rw [hs0]; simp)] at hres
    refine Of (Of (Of (Pf ?_)))
    refine Qn (FW_cond_false rfl ?_)
    refine FW_skip ?_
    exact Qcut_normal () ⟨rfl, rfl, trivial⟩ ⟨hres, H2⟩
   rintro _ τ w103 ⟨hres, H103⟩
   simp only [upds, like, upd_ds, und_ds]
   refine FW_seq (Sr (Am ?_))
   refine Qn (FW_block (FW_loop' (fun j : Nat => [(0, str s), (2, .pointer (some ⟨b1, 0, none⟩)), (12, I ((7 + j : Nat) : Int))]) (fun j w' => (j ≤ 12 ∧ ∀ (i : Nat) y, i < j → signsW[i]? = some y → decide (y = s) = false) ∧ Sep w noB [blk b1 (stepCells ⟨0, 0, []⟩) 60] w') (fun j _ => 12 - j) 0 ⟨rfl, rfl, rfl, trivial⟩ ⟨⟨Nat.zero_le _, fun i y hi => by omega⟩, H103⟩ (fun j τ w106 hI => ?_)))
   obtain ⟨⟨hj, hbe⟩, H106⟩ := hI
   try simp only [upds, like, upd_ds]
   refine FW_seq (Sr (Mv ?_))
   refine Vv (Gives.leq rfl rfl) (Qn ?_)
   refine Cp rfl (fun hc109 => ?_) (fun hc109 => ?_)
   ·have hj2 : j < 12 := by omega
    have hsw := sign_word hj2
    have hsa := sign_at hj2
    refine Sk (FW_seq (FW_block (Sr (Mv ?_))))
    refine Vv (Gives.build (out := stepCells ⟨7 + (j : Nat), 0, []⟩) (Fills.one rfl rfl rfl (by simp) rfl Fills.nil)) (FL_callQ H106 (word_ok22 ⟨7 + (j : Nat), 0, []⟩ hsw.2 ⟨by dsimp only; omega, by dsimp only; omega⟩) (h := fun w114 H114 k113 => ?_))
    rw [hsw.1]
    refine Mv ?_
    refine Vv (Gives.eqlT rfl rfl) (Qn ?_)
    refine Cp rfl (fun hc117 => ?_) (fun hc117 => ?_)
    ·rw [find_at hbe hsa (by simpa using hc117)] at hres
     refine Sr (Mv ?_)
     refine Vv (Gives.build (out := stepCells ⟨7 + (j : Nat), 0, []⟩) (Fills.one rfl rfl rfl (by simp) rfl Fills.nil)) (FL_storeAll H114 (h := fun w122 H122 => ?_))
     refine Qn (Rb (Qround_ret (Qblk_ret (Qseq_ret (QfnC_ret (h := ?_))))))
     exact ⟨_, resC1 H122, by rw [hres]; rfl, H122.kept⟩
    have hne78 := decide_eq_false hc117
    refine FW_skip (Qblk_normal (Qseq_normal (FW_region (Mv ?_))))
    refine Vv (Gives.addI (c := ((7 + (j + 1) : Nat) : Int)) rfl rfl (by omega) (by omega)) (Am ?_)
    refine FL_nil ?_
    exact Qround_normal (j + 1) ⟨rfl, rfl, rfl, trivial⟩ ⟨⟨by omega, fun i y hi hy => by
    by_cases e : i = j
    ·subst e; rw [hsa] at hy; injection hy with hy; rw [← hy]; exact hne78
    exact hbe i y (by omega) hy⟩, H114⟩ (by omega)
   have hj12 : j = 12 := by omega
   rw [findNone (fun i y hy => hbe i y (by have := get_lt hy; rw [hj12]; exact this) hy)] at hres
   dsimp only at hres
   refine FW_exit (Qseq_exit (Qround_exit (Qblk_exit (Qseq_normal (FW_seq (Sr (Am ?_)))))))
   refine Qn (FW_block (FW_loop' (fun k : Nat => [(0, str s), (2, .pointer (some ⟨b1, 0, none⟩)), (13, I k)]) (fun k w' => (1 ≤ k ∧ k ≤ 6 ∧ ∀ j : Int, 1 ≤ j → j < k → nullWord j ≠ s) ∧ Sep w noB [blk b1 (stepCells ⟨0, 0, []⟩) 60] w') (fun k _ => 6 - k) 1 ⟨rfl, rfl, rfl, trivial⟩ ⟨⟨by omega, by omega, fun j a b => by omega⟩, H106⟩ (fun k τ w132 hI => ?_)))
   obtain ⟨⟨hk1, hk6, hnb⟩, H132⟩ := hI
   try simp only [upds, like, upd_ds]
   refine FW_seq (Sr (Mv ?_))
   refine Vv (Gives.leq rfl rfl) (Qn ?_)
   refine Cp rfl (fun hc135 => ?_) (fun hc135 => ?_)
   ·have hnw := null_word (k := (k : Int)) (by omega) (by omega)
    refine Sk (FW_seq (FW_block (Sr (Mv ?_))))
    refine Mv ?_
    refine FL_callS (word_ok11 _) (h := ?_)
    refine Vv (Gives.catT rfl rfl (by unfold kindW; (repeat' split) <;> simp)) ?_
    rw [hnw]
    refine Vv (Gives.eqlT rfl rfl) (Qn ?_)
    refine Cp rfl (fun hc142 => ?_) (fun hc142 => ?_)
    ·rw [nulls_some (by omega) (by omega) hnb hc142.symm] at hres
     refine Sr (Mv ?_)
     refine Vv (Gives.build (out := stepCells ⟨6, (k : Int), []⟩) (Fills.one rfl rfl rfl (by simp) rfl (Fills.one rfl rfl rfl (by simp) rfl Fills.nil))) (FL_storeAll H132 (h := fun w147 H147 => ?_))
     refine Qn (Rb (Qround_ret (Qblk_ret (Qseq_ret (QfnC_ret (h := ?_))))))
     exact ⟨_, resC1 H147, by rw [hres]; rfl, H147.kept⟩
    have hne89 := hc142
    refine FW_skip (Qblk_normal (Qseq_normal (FW_region (Mv ?_))))
    refine Vv (Gives.addI (c := ((k + 1 : Nat) : Int)) rfl rfl (by omega) (by omega)) (Am ?_)
    refine FL_nil ?_
    exact Qround_normal (k + 1) ⟨rfl, rfl, rfl, trivial⟩ ⟨⟨by omega, by omega, fun j a b => by
    by_cases e : j = k
    ·subst e; exact fun e => hne89 e.symm
    exact hnb j a (by omega)⟩, H132⟩ (by omega)
   rw [nulls_none (fun j a b => hnb j a (by omega))] at hres
   dsimp only at hres
   refine FW_exit (Qseq_exit (Qround_exit (Qblk_exit (Qseq_normal (FW_seq (Sr (Mv ?_)))))))
   refine Vv (Gives.eqlT rfl rfl) (Qn ?_)
   refine Cp rfl (fun hc157 => ?_) (fun hc157 => ?_)
   ·rw [if_pos (show s = trueW from hc157)] at hres
    refine Sr (Vv (Gives.build (out := stepCells ⟨3, 1, []⟩) (Fills.one rfl rfl rfl (by simp) rfl (Fills.one rfl rfl rfl (by simp) rfl Fills.nil))) (FL_storeAll H132 (h := fun w161 H161 => ?_)))
    refine Qn (Rs (QfnC_ret (h := ?_)))
    exact ⟨_, resC1 H161, by rw [hres]; rfl, H161.kept⟩
   rw [if_neg (show ¬ s = trueW from hc157)] at hres
   refine Sk (Sr (Vv (Gives.build (out := stepCells ⟨3, 0, []⟩) (Fills.one rfl rfl rfl (by simp) rfl Fills.nil)) (FL_storeAll H132 (h := fun w166 H166 => ?_))))
   refine Qn (FW_ret (QfnC_ret (h := ?_)))
   exact ⟨_, resC1 H166, by rw [hres]; rfl, H166.kept⟩
  have hs0 : s = [] := List.eq_nil_of_length_eq_zero (by omega)
  rw [if_neg (by rw [hs0]; simp)] at hres
  refine Of (Of (Of (Pf ?_)))
  refine Qn (FW_cond_false rfl ?_)
  refine Sk ?_
  refine FW_cut (fun _ : Unit => [(0, str s), (2, .pointer (some ⟨b1, 0, none⟩))]) (fun _ w' => res = (match signsW.findIdx? (fun x => decide (x = s)) with
  | some i => ⟨7 + i, 0, []⟩
  | none => match [1, 2, 3, 4, 5].find? (fun k : Int => decide (nullWord k = s)) with
   | some k => ⟨6, k, []⟩
   | none => if s = trueW then ⟨3, 1, []⟩ else ⟨3, 0, []⟩) ∧ Sep w noB [blk b1 (stepCells ⟨0, 0, []⟩) 60] w') ?_ ?_
  ·refine Sr (Mv ?_)
   refine Vt ?_
   refine Vg ?_
   refine Mv ?_
   refine FL_splitP (t := 57) rfl (fun hs175 => ?_) (fun hs175 => ?_)
   ·refine On (Mv ?_)
    refine On (Vv (Gives.idxD (i := 0) rfl rfl (by omega)) (On ?_))
    refine Ve ?_
    refine Pt ?_
    refine Qn (Cp rfl (fun hc180 => ?_) (fun hc180 => ?_))
    ·have hh := (head_get (w := s) (c := 120) (by omega)).2 (UInt8.toNat_inj.1 (by show (s.getD 0 0).toNat = 120; omega))
     rw [if_pos hh] at hres
     refine Sr (Mv ?_)
     refine Vv (Gives.sliceFromT (i := 1) rfl rfl (by omega)) (FL_callQ H2 (unhex_ok9 (s.drop 1) (by rw [List.length_drop]; omega)) (h := fun w185 H185 k184 => ?_))
     refine Mv ?_
     refine Vx ?_
     refine Vx ?_
     refine Am ?_
     refine Am ?_
     refine Nx (Mv ?_)
     refine Vv (Gives.build (out := stepCells ⟨5, 0, (unhexGo (s.drop 1)).getD []⟩) (Fills.one rfl rfl rfl (by simp) rfl (Fills.one rfl rfl rfl (by simp) rfl Fills.nil))) (FL_storeAll H185 (h := fun w194 H194 => ?_))
     refine Qn (FW_ret (Qcut_ret (QfnC_ret (h := ?_))))
     exact ⟨_, resC1 H194, by rw [hres]; rfl, H194.kept⟩
    have hh : ¬ (s.head? = some 120) := fun h => by
     have := (head_get (w := s) (c := 120) (by omega)).1 h
     rw [this] at hc180; exact hc180 rfl
    rw [if_neg hh] at hres
    refine FW_skip ?_
    exact Qcut_normal () ⟨rfl, rfl, trivial⟩ ⟨hres, H2⟩
   have hs0 : s = [] := List.eq_nil_of_length_eq_zero (by omega)
   rw [if_neg (by rw [hs0]; simp)] at hres
   refine Of (Of (Of (Pf ?_)))
   refine Qn (FW_cond_false rfl ?_)
   refine FW_skip ?_
   exact Qcut_normal () ⟨rfl, rfl, trivial⟩ ⟨hres, H2⟩
  rintro _ τ w202 ⟨hres, H202⟩
  simp only [upds, like, upd_ds, und_ds]
  refine FW_seq (Sr (Am ?_))
  refine Qn (FW_block (FW_loop' (fun j : Nat => [(0, str s), (2, .pointer (some ⟨b1, 0, none⟩)), (12, I ((7 + j : Nat) : Int))]) (fun j w' => (j ≤ 12 ∧ ∀ (i : Nat) y, i < j → signsW[i]? = some y → decide (y = s) = false) ∧ Sep w noB [blk b1 (stepCells ⟨0, 0, []⟩) 60] w') (fun j _ => 12 - j) 0 ⟨rfl, rfl, rfl, trivial⟩ ⟨⟨Nat.zero_le _, fun i y hi => by omega⟩, H202⟩ (fun j τ w205 hI => ?_)))
  obtain ⟨⟨hj, hbe⟩, H205⟩ := hI
  try simp only [upds, like, upd_ds]
  refine FW_seq (Sr (Mv ?_))
  refine Vv (Gives.leq rfl rfl) (Qn ?_)
  refine Cp rfl (fun hc208 => ?_) (fun hc208 => ?_)
  ·have hj2 : j < 12 := by omega
   have hsw := sign_word hj2
   have hsa := sign_at hj2
   refine Sk (FW_seq (FW_block (Sr (Mv ?_))))
   refine Vv (Gives.build (out := stepCells ⟨7 + (j : Nat), 0, []⟩) (Fills.one rfl rfl rfl (by simp) rfl Fills.nil)) (FL_callQ H205 (word_ok22 ⟨7 + (j : Nat), 0, []⟩ hsw.2 ⟨by dsimp only; omega, by dsimp only; omega⟩) (h := fun w213 H213 k212 => ?_))
   rw [hsw.1]
   refine Mv ?_
   refine Vv (Gives.eqlT rfl rfl) (Qn ?_)
   refine Cp rfl (fun hc216 => ?_) (fun hc216 => ?_)
   ·rw [find_at hbe hsa (by simpa using hc216)] at hres
    refine Sr (Mv ?_)
    refine Vv (Gives.build (out := stepCells ⟨7 + (j : Nat), 0, []⟩) (Fills.one rfl rfl rfl (by simp) rfl Fills.nil)) (FL_storeAll H213 (h := fun w221 H221 => ?_))
    refine Qn (Rb (Qround_ret (Qblk_ret (Qseq_ret (QfnC_ret (h := ?_))))))
    exact ⟨_, resC1 H221, by rw [hres]; rfl, H221.kept⟩
   have hne78 := decide_eq_false hc216
   refine FW_skip (Qblk_normal (Qseq_normal (FW_region (Mv ?_))))
   refine Vv (Gives.addI (c := ((7 + (j + 1) : Nat) : Int)) rfl rfl (by omega) (by omega)) (Am ?_)
   refine FL_nil ?_
   exact Qround_normal (j + 1) ⟨rfl, rfl, rfl, trivial⟩ ⟨⟨by omega, fun i y hi hy => by
   by_cases e : i = j
   ·subst e; rw [hsa] at hy; injection hy with hy; rw [← hy]; exact hne78
   exact hbe i y (by omega) hy⟩, H213⟩ (by omega)
  have hj12 : j = 12 := by omega
  rw [findNone (fun i y hy => hbe i y (by have := get_lt hy; rw [hj12]; exact this) hy)] at hres
  dsimp only at hres
  refine FW_exit (Qseq_exit (Qround_exit (Qblk_exit (Qseq_normal (FW_seq (Sr (Am ?_)))))))
  refine Qn (FW_block (FW_loop' (fun k : Nat => [(0, str s), (2, .pointer (some ⟨b1, 0, none⟩)), (13, I k)]) (fun k w' => (1 ≤ k ∧ k ≤ 6 ∧ ∀ j : Int, 1 ≤ j → j < k → nullWord j ≠ s) ∧ Sep w noB [blk b1 (stepCells ⟨0, 0, []⟩) 60] w') (fun k _ => 6 - k) 1 ⟨rfl, rfl, rfl, trivial⟩ ⟨⟨by omega, by omega, fun j a b => by omega⟩, H205⟩ (fun k τ w231 hI => ?_)))
  obtain ⟨⟨hk1, hk6, hnb⟩, H231⟩ := hI
  try simp only [upds, like, upd_ds]
  refine FW_seq (Sr (Mv ?_))
  refine Vv (Gives.leq rfl rfl) (Qn ?_)
  refine Cp rfl (fun hc234 => ?_) (fun hc234 => ?_)
  ·have hnw := null_word (k := (k : Int)) (by omega) (by omega)
   refine Sk (FW_seq (FW_block (Sr (Mv ?_))))
   refine Mv ?_
   refine FL_callS (word_ok11 _) (h := ?_)
   refine Vv (Gives.catT rfl rfl (by unfold kindW; (repeat' split) <;> simp)) ?_
   rw [hnw]
   refine Vv (Gives.eqlT rfl rfl) (Qn ?_)
   refine Cp rfl (fun hc241 => ?_) (fun hc241 => ?_)
   ·rw [nulls_some (by omega) (by omega) hnb hc241.symm] at hres
    refine Sr (Mv ?_)
    refine Vv (Gives.build (out := stepCells ⟨6, (k : Int), []⟩) (Fills.one rfl rfl rfl (by simp) rfl (Fills.one rfl rfl rfl (by simp) rfl Fills.nil))) (FL_storeAll H231 (h := fun w246 H246 => ?_))
    refine Qn (Rb (Qround_ret (Qblk_ret (Qseq_ret (QfnC_ret (h := ?_))))))
    exact ⟨_, resC1 H246, by rw [hres]; rfl, H246.kept⟩
   have hne89 := hc241
   refine FW_skip (Qblk_normal (Qseq_normal (FW_region (Mv ?_))))
   refine Vv (Gives.addI (c := ((k + 1 : Nat) : Int)) rfl rfl (by omega) (by omega)) (Am ?_)
   refine FL_nil ?_
   exact Qround_normal (k + 1) ⟨rfl, rfl, rfl, trivial⟩ ⟨⟨by omega, by omega, fun j a b => by
   by_cases e : j = k
   ·subst e; exact fun e => hne89 e.symm
   exact hnb j a (by omega)⟩, H231⟩ (by omega)
  rw [nulls_none (fun j a b => hnb j a (by omega))] at hres
  dsimp only at hres
  refine FW_exit (Qseq_exit (Qround_exit (Qblk_exit (Qseq_normal (FW_seq (Sr (Mv ?_)))))))
  refine Vv (Gives.eqlT rfl rfl) (Qn ?_)
  refine Cp rfl (fun hc256 => ?_) (fun hc256 => ?_)
  ·rw [if_pos (show s = trueW from hc256)] at hres
   refine Sr (Vv (Gives.build (out := stepCells ⟨3, 1, []⟩) (Fills.one rfl rfl rfl (by simp) rfl (Fills.one rfl rfl rfl (by simp) rfl Fills.nil))) (FL_storeAll H231 (h := fun w260 H260 => ?_)))
   refine Qn (Rs (QfnC_ret (h := ?_)))
   exact ⟨_, resC1 H260, by rw [hres]; rfl, H260.kept⟩
  rw [if_neg (show ¬ s = trueW from hc256)] at hres
  refine Sk (Sr (Vv (Gives.build (out := stepCells ⟨3, 0, []⟩) (Fills.one rfl rfl rfl (by simp) rfl Fills.nil)) (FL_storeAll H231 (h := fun w265 H265 => ?_))))
  refine Qn (FW_ret (QfnC_ret (h := ?_)))
  exact ⟨_, resC1 H265, by rw [hres]; rfl, H265.kept⟩
 rw [if_neg (fun h => by omega)] at hres
 refine Of (Of (Of (Pf ?_)))
 refine Qn (FW_cond_false rfl ?_)
 refine Sk (FW_seq (Sr (Mv ?_)))
 refine Vt ?_
 refine Vg ?_
 refine Mv ?_
 refine FL_splitP (t := 41) rfl (fun hs273 => ?_) (fun hs273 => ?_)
 ·refine On (Mv ?_)
  refine On (Vv (Gives.idxD (i := 0) rfl rfl (by omega)) (On ?_))
  refine Ve ?_
  refine Pt ?_
  refine Qn (Cp rfl (fun hc278 => ?_) (fun hc278 => ?_))
  ·have hh := (head_get (w := s) (c := 34) (by omega)).2 (UInt8.toNat_inj.1 (by show (s.getD 0 0).toNat = 34; omega))
   rw [if_pos hh] at hres
   refine Sr (Mv ?_)
   refine FL_callQ H2 (unquote_ok4 s (by omega)) (h := fun w282 H282 k281 => ?_)
   refine Mv ?_
   refine Vx ?_
   refine Vx ?_
   refine Vx ?_
   refine Am ?_
   refine Am ?_
   refine Am ?_
   refine Nx (Mv ?_)
   refine Vv (Gives.build (out := stepCells ⟨4, 0, (unqL s).1⟩) (Fills.one rfl rfl rfl (by simp) rfl (Fills.one rfl rfl rfl (by simp) rfl Fills.nil))) (FL_storeAll H282 (h := fun w293 H293 => ?_))
   refine Qn (Rs (QfnC_ret (h := ?_)))
   exact ⟨_, resC1 H293, by rw [hres]; rfl, H293.kept⟩
  have hh : ¬ (s.head? = some 34) := fun h => by
   have := (head_get (w := s) (c := 34) (by omega)).1 h
   rw [this] at hc278; exact hc278 rfl
  rw [if_neg hh] at hres
  refine Sk ?_
  refine FW_cut (fun _ : Unit => [(0, str s), (2, .pointer (some ⟨b1, 0, none⟩))]) (fun _ w' => res = (match signsW.findIdx? (fun x => decide (x = s)) with
  | some i => ⟨7 + i, 0, []⟩
  | none => match [1, 2, 3, 4, 5].find? (fun k : Int => decide (nullWord k = s)) with
   | some k => ⟨6, k, []⟩
   | none => if s = trueW then ⟨3, 1, []⟩ else ⟨3, 0, []⟩) ∧ Sep w noB [blk b1 (stepCells ⟨0, 0, []⟩) 60] w') ?_ ?_
  ·refine Sr (Mv ?_)
   refine Vt ?_
   refine Vg ?_
   refine Mv ?_
   refine FL_splitP (t := 57) rfl (fun hs301 => ?_) (fun hs301 => ?_)
   ·refine On (Mv ?_)
    refine On (Vv (Gives.idxD (i := 0) rfl rfl (by omega)) (On ?_))
    refine Ve ?_
    refine Pt ?_
    refine Qn (Cp rfl (fun hc306 => ?_) (fun hc306 => ?_))
    ·have hh := (head_get (w := s) (c := 120) (by omega)).2 (UInt8.toNat_inj.1 (by show (s.getD 0 0).toNat = 120; omega))
     rw [if_pos hh] at hres
     refine Sr (Mv ?_)
     refine Vv (Gives.sliceFromT (i := 1) rfl rfl (by omega)) (FL_callQ H2 (unhex_ok9 (s.drop 1) (by rw [List.length_drop]; omega)) (h := fun w311 H311 k310 => ?_))
     refine Mv ?_
     refine Vx ?_
     refine Vx ?_
     refine Am ?_
     refine Am ?_
     refine Nx (Mv ?_)
     refine Vv (Gives.build (out := stepCells ⟨5, 0, (unhexGo (s.drop 1)).getD []⟩) (Fills.one rfl rfl rfl (by simp) rfl (Fills.one rfl rfl rfl (by simp) rfl Fills.nil))) (FL_storeAll H311 (h := fun w320 H320 => ?_))
     refine Qn (FW_ret (Qcut_ret (QfnC_ret (h := ?_))))
     exact ⟨_, resC1 H320, by rw [hres]; rfl, H320.kept⟩
    have hh : ¬ (s.head? = some 120) := fun h => by
     have := (head_get (w := s) (c := 120) (by omega)).1 h
     rw [this] at hc306; exact hc306 rfl
    rw [if_neg hh] at hres
    refine FW_skip ?_
    exact Qcut_normal () ⟨rfl, rfl, trivial⟩ ⟨hres, H2⟩
   have hs0 : s = [] := List.eq_nil_of_length_eq_zero (by omega)
   rw [if_neg (by rw [hs0]; simp)] at hres
   refine Of (Of (Of (Pf ?_)))
   refine Qn (FW_cond_false rfl ?_)
   refine FW_skip ?_
   exact Qcut_normal () ⟨rfl, rfl, trivial⟩ ⟨hres, H2⟩
  rintro _ τ w328 ⟨hres, H328⟩
  simp only [upds, like, upd_ds, und_ds]
  refine FW_seq (Sr (Am ?_))
  refine Qn (FW_block (FW_loop' (fun j : Nat => [(0, str s), (2, .pointer (some ⟨b1, 0, none⟩)), (12, I ((7 + j : Nat) : Int))]) (fun j w' => (j ≤ 12 ∧ ∀ (i : Nat) y, i < j → signsW[i]? = some y → decide (y = s) = false) ∧ Sep w noB [blk b1 (stepCells ⟨0, 0, []⟩) 60] w') (fun j _ => 12 - j) 0 ⟨rfl, rfl, rfl, trivial⟩ ⟨⟨Nat.zero_le _, fun i y hi => by omega⟩, H328⟩ (fun j τ w331 hI => ?_)))
  obtain ⟨⟨hj, hbe⟩, H331⟩ := hI
  try simp only [upds, like, upd_ds]
  refine FW_seq (Sr (Mv ?_))
  refine Vv (Gives.leq rfl rfl) (Qn ?_)
  refine Cp rfl (fun hc334 => ?_) (fun hc334 => ?_)
  ·have hj2 : j < 12 := by omega
   have hsw := sign_word hj2
   have hsa := sign_at hj2
   refine Sk (FW_seq (FW_block (Sr (Mv ?_))))
   refine Vv (Gives.build (out := stepCells ⟨7 + (j : Nat), 0, []⟩) (Fills.one rfl rfl rfl (by simp) rfl Fills.nil)) (FL_callQ H331 (word_ok22 ⟨7 + (j : Nat), 0, []⟩ hsw.2 ⟨by dsimp only; omega, by dsimp only; omega⟩) (h := fun w339 H339 k338 => ?_))
   rw [hsw.1]
   refine Mv ?_
   refine Vv (Gives.eqlT rfl rfl) (Qn ?_)
   refine Cp rfl (fun hc342 => ?_) (fun hc342 => ?_)
   ·rw [find_at hbe hsa (by simpa using hc342)] at hres
    refine Sr (Mv ?_)
    refine Vv (Gives.build (out := stepCells ⟨7 + (j : Nat), 0, []⟩) (Fills.one rfl rfl rfl (by simp) rfl Fills.nil)) (FL_storeAll H339 (h := fun w347 H347 => ?_))
    refine Qn (Rb (Qround_ret (Qblk_ret (Qseq_ret (QfnC_ret (h := ?_))))))
    exact ⟨_, resC1 H347, by rw [hres]; rfl, H347.kept⟩
   have hne78 := decide_eq_false hc342
   refine FW_skip (Qblk_normal (Qseq_normal (FW_region (Mv ?_))))
   refine Vv (Gives.addI (c := ((7 + (j + 1) : Nat) : Int)) rfl rfl (by omega) (by omega)) (Am ?_)
   refine FL_nil ?_
   exact Qround_normal (j + 1) ⟨rfl, rfl, rfl, trivial⟩ ⟨⟨by omega, fun i y hi hy => by
   by_cases e : i = j
   ·subst e; rw [hsa] at hy; injection hy with hy; rw [← hy]; exact hne78
   exact hbe i y (by omega) hy⟩, H339⟩ (by omega)
  have hj12 : j = 12 := by omega
  rw [findNone (fun i y hy => hbe i y (by have := get_lt hy; rw [hj12]; exact this) hy)] at hres
  dsimp only at hres
  refine FW_exit (Qseq_exit (Qround_exit (Qblk_exit (Qseq_normal (FW_seq (Sr (Am ?_)))))))
  refine Qn (FW_block (FW_loop' (fun k : Nat => [(0, str s), (2, .pointer (some ⟨b1, 0, none⟩)), (13, I k)]) (fun k w' => (1 ≤ k ∧ k ≤ 6 ∧ ∀ j : Int, 1 ≤ j → j < k → nullWord j ≠ s) ∧ Sep w noB [blk b1 (stepCells ⟨0, 0, []⟩) 60] w') (fun k _ => 6 - k) 1 ⟨rfl, rfl, rfl, trivial⟩ ⟨⟨by omega, by omega, fun j a b => by omega⟩, H331⟩ (fun k τ w357 hI => ?_)))
  obtain ⟨⟨hk1, hk6, hnb⟩, H357⟩ := hI
  try simp only [upds, like, upd_ds]
  refine FW_seq (Sr (Mv ?_))
  refine Vv (Gives.leq rfl rfl) (Qn ?_)
  refine Cp rfl (fun hc360 => ?_) (fun hc360 => ?_)
  ·have hnw := null_word (k := (k : Int)) (by omega) (by omega)
   refine Sk (FW_seq (FW_block (Sr (Mv ?_))))
   refine Mv ?_
   refine FL_callS (word_ok11 _) (h := ?_)
   refine Vv (Gives.catT rfl rfl (by unfold kindW; (repeat' split) <;> simp)) ?_
   rw [hnw]
   refine Vv (Gives.eqlT rfl rfl) (Qn ?_)
   refine Cp rfl (fun hc367 => ?_) (fun hc367 => ?_)
   ·rw [nulls_some (by omega) (by omega) hnb hc367.symm] at hres
    refine Sr (Mv ?_)
    refine Vv (Gives.build (out := stepCells ⟨6, (k : Int), []⟩) (Fills.one rfl rfl rfl (by simp) rfl (Fills.one rfl rfl rfl (by simp) rfl Fills.nil))) (FL_storeAll H357 (h := fun w372 H372 => ?_))
    refine Qn (Rb (Qround_ret (Qblk_ret (Qseq_ret (QfnC_ret (h := ?_))))))
    exact ⟨_, resC1 H372, by rw [hres]; rfl, H372.kept⟩
   have hne89 := hc367
   refine FW_skip (Qblk_normal (Qseq_normal (FW_region (Mv ?_))))
   refine Vv (Gives.addI (c := ((k + 1 : Nat) : Int)) rfl rfl (by omega) (by omega)) (Am ?_)
   refine FL_nil ?_
   exact Qround_normal (k + 1) ⟨rfl, rfl, rfl, trivial⟩ ⟨⟨by omega, by omega, fun j a b => by
   by_cases e : j = k
   ·subst e; exact fun e => hne89 e.symm
   exact hnb j a (by omega)⟩, H357⟩ (by omega)
  rw [nulls_none (fun j a b => hnb j a (by omega))] at hres
  dsimp only at hres
  refine FW_exit (Qseq_exit (Qround_exit (Qblk_exit (Qseq_normal (FW_seq (Sr (Mv ?_)))))))
  refine Vv (Gives.eqlT rfl rfl) (Qn ?_)
  refine Cp rfl (fun hc382 => ?_) (fun hc382 => ?_)
  ·rw [if_pos (show s = trueW from hc382)] at hres
   refine Sr (Vv (Gives.build (out := stepCells ⟨3, 1, []⟩) (Fills.one rfl rfl rfl (by simp) rfl (Fills.one rfl rfl rfl (by simp) rfl Fills.nil))) (FL_storeAll H357 (h := fun w386 H386 => ?_)))
   refine Qn (Rs (QfnC_ret (h := ?_)))
   exact ⟨_, resC1 H386, by rw [hres]; rfl, H386.kept⟩
  rw [if_neg (show ¬ s = trueW from hc382)] at hres
  refine Sk (Sr (Vv (Gives.build (out := stepCells ⟨3, 0, []⟩) (Fills.one rfl rfl rfl (by simp) rfl Fills.nil)) (FL_storeAll H357 (h := fun w391 H391 => ?_))))
  refine Qn (FW_ret (QfnC_ret (h := ?_)))
  exact ⟨_, resC1 H391, by rw [hres]; rfl, H391.kept⟩
 have hs0 : s = [] := List.eq_nil_of_length_eq_zero (by omega)
 rw [if_neg (by rw [hs0]; simp)] at hres
 refine Of (Of (Of (Pf ?_)))
 refine Qn (FW_cond_false rfl ?_)
 refine Sk ?_
 refine FW_cut (fun _ : Unit => [(0, str s), (2, .pointer (some ⟨b1, 0, none⟩))]) (fun _ w' => res = (match signsW.findIdx? (fun x => decide (x = s)) with
 | some i => ⟨7 + i, 0, []⟩
 | none => match [1, 2, 3, 4, 5].find? (fun k : Int => decide (nullWord k = s)) with
  | some k => ⟨6, k, []⟩
  | none => if s = trueW then ⟨3, 1, []⟩ else ⟨3, 0, []⟩) ∧ Sep w noB [blk b1 (stepCells ⟨0, 0, []⟩) 60] w') ?_ ?_
 ·refine Sr (Mv ?_)
  refine Vt ?_
  refine Vg ?_
  refine Mv ?_
  refine FL_splitP (t := 57) rfl (fun hs400 => ?_) (fun hs400 => ?_)
  ·refine On (Mv ?_)
   refine On (Vv (Gives.idxD (i := 0) rfl rfl (by omega)) (On ?_))
   refine Ve ?_
   refine Pt ?_
   refine Qn (Cp rfl (fun hc405 => ?_) (fun hc405 => ?_))
   ·have hh := (head_get (w := s) (c := 120) (by omega)).2 (UInt8.toNat_inj.1 (by show (s.getD 0 0).toNat = 120; omega))
    rw [if_pos hh] at hres
    refine Sr (Mv ?_)
    refine Vv (Gives.sliceFromT (i := 1) rfl rfl (by omega)) (FL_callQ H2 (unhex_ok9 (s.drop 1) (by rw [List.length_drop]; omega)) (h := fun w410 H410 k409 => ?_))
    refine Mv ?_
    refine Vx ?_
    refine Vx ?_
    refine Am ?_
    refine Am ?_
    refine Nx (Mv ?_)
    refine Vv (Gives.build (out := stepCells ⟨5, 0, (unhexGo (s.drop 1)).getD []⟩) (Fills.one rfl rfl rfl (by simp) rfl (Fills.one rfl rfl rfl (by simp) rfl Fills.nil))) (FL_storeAll H410 (h := fun w419 H419 => ?_))
    refine Qn (FW_ret (Qcut_ret (QfnC_ret (h := ?_))))
    exact ⟨_, resC1 H419, by rw [hres]; rfl, H419.kept⟩
   have hh : ¬ (s.head? = some 120) := fun h => by
    have := (head_get (w := s) (c := 120) (by omega)).1 h
    rw [this] at hc405; exact hc405 rfl
   rw [if_neg hh] at hres
   refine FW_skip ?_
   exact Qcut_normal () ⟨rfl, rfl, trivial⟩ ⟨hres, H2⟩
  have hs0 : s = [] := List.eq_nil_of_length_eq_zero (by omega)
  rw [if_neg (by rw [hs0]; simp)] at hres
  refine Of (Of (Of (Pf ?_)))
  refine Qn (FW_cond_false rfl ?_)
  refine FW_skip ?_
  exact Qcut_normal () ⟨rfl, rfl, trivial⟩ ⟨hres, H2⟩
 rintro _ τ w427 ⟨hres, H427⟩
 simp only [upds, like, upd_ds, und_ds]
 refine FW_seq (Sr (Am ?_))
 refine Qn (FW_block (FW_loop' (fun j : Nat => [(0, str s), (2, .pointer (some ⟨b1, 0, none⟩)), (12, I ((7 + j : Nat) : Int))]) (fun j w' => (j ≤ 12 ∧ ∀ (i : Nat) y, i < j → signsW[i]? = some y → decide (y = s) = false) ∧ Sep w noB [blk b1 (stepCells ⟨0, 0, []⟩) 60] w') (fun j _ => 12 - j) 0 ⟨rfl, rfl, rfl, trivial⟩ ⟨⟨Nat.zero_le _, fun i y hi => by omega⟩, H427⟩ (fun j τ w430 hI => ?_)))
 obtain ⟨⟨hj, hbe⟩, H430⟩ := hI
 try simp only [upds, like, upd_ds]
 refine FW_seq (Sr (Mv ?_))
 refine Vv (Gives.leq rfl rfl) (Qn ?_)
 refine Cp rfl (fun hc433 => ?_) (fun hc433 => ?_)
 ·have hj2 : j < 12 := by omega
  have hsw := sign_word hj2
  have hsa := sign_at hj2
  refine Sk (FW_seq (FW_block (Sr (Mv ?_))))
  refine Vv (Gives.build (out := stepCells ⟨7 + (j : Nat), 0, []⟩) (Fills.one rfl rfl rfl (by simp) rfl Fills.nil)) (FL_callQ H430 (word_ok22 ⟨7 + (j : Nat), 0, []⟩ hsw.2 ⟨by dsimp only; omega, by dsimp only; omega⟩) (h := fun w438 H438 k437 => ?_))
  rw [hsw.1]
  refine Mv ?_
  refine Vv (Gives.eqlT rfl rfl) (Qn ?_)
  refine Cp rfl (fun hc441 => ?_) (fun hc441 => ?_)
  ·rw [find_at hbe hsa (by simpa using hc441)] at hres
   refine Sr (Mv ?_)
   refine Vv (Gives.build (out := stepCells ⟨7 + (j : Nat), 0, []⟩) (Fills.one rfl rfl rfl (by simp) rfl Fills.nil)) (FL_storeAll H438 (h := fun w446 H446 => ?_))
   refine Qn (Rb (Qround_ret (Qblk_ret (Qseq_ret (QfnC_ret (h := ?_))))))
   exact ⟨_, resC1 H446, by rw [hres]; rfl, H446.kept⟩
  have hne78 := decide_eq_false hc441
  refine FW_skip (Qblk_normal (Qseq_normal (FW_region (Mv ?_))))
  refine Vv (Gives.addI (c := ((7 + (j + 1) : Nat) : Int)) rfl rfl (by omega) (by omega)) (Am ?_)
  refine FL_nil ?_
  exact Qround_normal (j + 1) ⟨rfl, rfl, rfl, trivial⟩ ⟨⟨by omega, fun i y hi hy => by
  by_cases e : i = j
  ·subst e; rw [hsa] at hy; injection hy with hy; rw [← hy]; exact hne78
  exact hbe i y (by omega) hy⟩, H438⟩ (by omega)
 have hj12 : j = 12 := by omega
 rw [findNone (fun i y hy => hbe i y (by have := get_lt hy; rw [hj12]; exact this) hy)] at hres
 dsimp only at hres
 refine FW_exit (Qseq_exit (Qround_exit (Qblk_exit (Qseq_normal (FW_seq (Sr (Am ?_)))))))
 refine Qn (FW_block (FW_loop' (fun k : Nat => [(0, str s), (2, .pointer (some ⟨b1, 0, none⟩)), (13, I k)]) (fun k w' => (1 ≤ k ∧ k ≤ 6 ∧ ∀ j : Int, 1 ≤ j → j < k → nullWord j ≠ s) ∧ Sep w noB [blk b1 (stepCells ⟨0, 0, []⟩) 60] w') (fun k _ => 6 - k) 1 ⟨rfl, rfl, rfl, trivial⟩ ⟨⟨by omega, by omega, fun j a b => by omega⟩, H430⟩ (fun k τ w456 hI => ?_)))
 obtain ⟨⟨hk1, hk6, hnb⟩, H456⟩ := hI
 try simp only [upds, like, upd_ds]
 refine FW_seq (Sr (Mv ?_))
 refine Vv (Gives.leq rfl rfl) (Qn ?_)
 refine Cp rfl (fun hc459 => ?_) (fun hc459 => ?_)
 ·have hnw := null_word (k := (k : Int)) (by omega) (by omega)
  refine Sk (FW_seq (FW_block (Sr (Mv ?_))))
  refine Mv ?_
  refine FL_callS (word_ok11 _) (h := ?_)
  refine Vv (Gives.catT rfl rfl (by unfold kindW; (repeat' split) <;> simp)) ?_
  rw [hnw]
  refine Vv (Gives.eqlT rfl rfl) (Qn ?_)
  refine Cp rfl (fun hc466 => ?_) (fun hc466 => ?_)
  ·rw [nulls_some (by omega) (by omega) hnb hc466.symm] at hres
   refine Sr (Mv ?_)
   refine Vv (Gives.build (out := stepCells ⟨6, (k : Int), []⟩) (Fills.one rfl rfl rfl (by simp) rfl (Fills.one rfl rfl rfl (by simp) rfl Fills.nil))) (FL_storeAll H456 (h := fun w471 H471 => ?_))
   refine Qn (Rb (Qround_ret (Qblk_ret (Qseq_ret (QfnC_ret (h := ?_))))))
   exact ⟨_, resC1 H471, by rw [hres]; rfl, H471.kept⟩
  have hne89 := hc466
  refine FW_skip (Qblk_normal (Qseq_normal (FW_region (Mv ?_))))
  refine Vv (Gives.addI (c := ((k + 1 : Nat) : Int)) rfl rfl (by omega) (by omega)) (Am ?_)
  refine FL_nil ?_
  exact Qround_normal (k + 1) ⟨rfl, rfl, rfl, trivial⟩ ⟨⟨by omega, by omega, fun j a b => by
  by_cases e : j = k
  ·subst e; exact fun e => hne89 e.symm
  exact hnb j a (by omega)⟩, H456⟩ (by omega)
 rw [nulls_none (fun j a b => hnb j a (by omega))] at hres
 dsimp only at hres
 refine FW_exit (Qseq_exit (Qround_exit (Qblk_exit (Qseq_normal (FW_seq (Sr (Mv ?_)))))))
 refine Vv (Gives.eqlT rfl rfl) (Qn ?_)
 refine Cp rfl (fun hc481 => ?_) (fun hc481 => ?_)
 ·rw [if_pos (show s = trueW from hc481)] at hres
  refine Sr (Vv (Gives.build (out := stepCells ⟨3, 1, []⟩) (Fills.one rfl rfl rfl (by simp) rfl (Fills.one rfl rfl rfl (by simp) rfl Fills.nil))) (FL_storeAll H456 (h := fun w485 H485 => ?_)))
  refine Qn (Rs (QfnC_ret (h := ?_)))
  exact ⟨_, resC1 H485, by rw [hres]; rfl, H485.kept⟩
 rw [if_neg (show ¬ s = trueW from hc481)] at hres
 refine Sk (Sr (Vv (Gives.build (out := stepCells ⟨3, 0, []⟩) (Fills.one rfl rfl rfl (by simp) rfl Fills.nil)) (FL_storeAll H456 (h := fun w490 H490 => ?_))))
 refine Qn (FW_ret (QfnC_ret (h := ?_)))
 exact ⟨_, resC1 H490, by rw [hres]; rfl, H490.kept⟩
end
end Go.Proofs.YtolaedhdjcnijaaGreatDoor
