/-
 The document's Parse, walked.
-/
import Derived.Test.YtolaedhdjcnijaaGreatDoorKx14
set_option linter.unusedVariables false
set_option linter.unusedSimpArgs false
namespace Go.Proofs.YtolaedhdjcnijaaGreatDoor
open Go Go.Mw Go.Lib
set_option maxRecDepth 4000
theorem readAll_cons (p : List UInt8) (ws : List (List UInt8)) : readAll (p :: ws) = if goodW (stepW p) p = true then (readAll ws).map (stepW p :: ·) else none := by
 rw [readAll, good_same]
 by_cases h : goodW (meantS p) p = true
 ·rw [if_pos h, if_pos h, good_step h]
 rw [if_neg h, if_neg h]
theorem drop_piece {α : Type} {s : List α} {a i : Nat} (h : a ≤ i) (hi : i ≤ s.length) : s.drop a = (s.take i).drop a ++ s.drop i := by
 have e : s.drop a = (s.take i ++ s.drop i).drop a := by rw [List.take_append_drop]
 rw [e, List.drop_append_of_le_length (by rw [List.length_take]; omega)]
theorem count_succ {s : List UInt8} {i : Nat} {c : UInt8} (h : s[i]? = some c) : (s.take (i + 1)).count 32 = (s.take i).count 32 + (if c = 32 then 1 else 0) := by
 rw [List.take_add_one, h, List.count_append]
 show _ + List.count 32 [c] = _
 by_cases e : c = 32
 ·subst e; simp
 rw [if_neg e, List.count_cons_of_ne e]; simp
theorem count_le_len (s : List UInt8) (c : UInt8) : s.count c ≤ s.length := List.count_le_length
def Before (s : List UInt8) (a i : Nat) (acc : List StepM) : Prop :=
 acc.length ≤ a ∧ (i ≤ s.length → a ≤ i ∧ (∀ (j : Nat) c, a ≤ j → j < i → s[j]? = some c → c ≠ 32) ∧ readAll (splitW 32 s) = (readAll (splitW 32 (s.drop a))).map (acc ++ ·)) ∧ (s.length < i → readAll (splitW 32 s) = some acc)
theorem before_zero (s : List UInt8) : Before s 0 0 [] := ⟨Nat.le_refl _, fun _ => ⟨Nat.le_refl _, fun j c _ h => by omega, by rw [List.drop_zero]; simp⟩, fun h => by omega⟩
theorem before_skip {s : List UInt8} {a i : Nat} {acc : List StepM} {c : UInt8} (h : Before s a i acc) (hc : s[i]? = some c) (hne : c ≠ 32) : Before s a (i + 1) acc := by
 have hlt := get_lt hc
 obtain ⟨h0, h1, _⟩ := h
 obtain ⟨ha, hb, hr⟩ := h1 (by omega)
 refine ⟨h0, fun hi => ⟨by omega, fun j d hj hj2 hd => ?_, hr⟩, fun hi => by omega⟩
 by_cases e : j = i
 ·subst e; rw [hc] at hd; injection hd with hd; rw [← hd]; exact hne
 exact hb j d hj (by omega) hd
theorem piece_nb {s : List UInt8} {a i : Nat} (h : ∀ (j : Nat) c, a ≤ j → j < i → s[j]? = some c → c ≠ 32) : ∀ c ∈ (s.take i).drop a, c ≠ 32 := fun c hc => by
 obtain ⟨j, hj⟩ := List.getElem?_of_mem hc
 rw [List.getElem?_drop, List.getElem?_take] at hj
 split at hj
 ·exact h (a + j) c (by omega) (by omega) hj
 cases hj
theorem before_split {s : List UInt8} {a i : Nat} {acc : List StepM} (h : Before s a i acc) (hi : i ≤ s.length) (hend : i < s.length → s[i]? = some 32) :
    splitW 32 (s.drop a) = (s.take i).drop a :: (if i < s.length then splitW 32 (s.drop (i + 1)) else []) := by
  obtain ⟨ha, hb, _⟩ := h.2.1 hi
  have hnb := piece_nb hb
  rw [drop_piece ha hi]
  by_cases hlt : i < s.length
  · rw [if_pos hlt]
    have he := hend hlt
    rw [List.getElem?_eq_getElem hlt] at he
    injection he with he
    rw [List.drop_eq_getElem_cons hlt, he, split_app hnb]
  have e : s.drop i = [] := List.drop_of_length_le (by omega)
  rw [if_neg hlt, e, List.append_nil, split_word hnb]
theorem before_bad {s : List UInt8} {a i : Nat} {acc : List StepM} (h : Before s a i acc) (hi : i ≤ s.length) (hend : i < s.length → s[i]? = some 32) (hg : goodW (stepW ((s.take i).drop a)) ((s.take i).drop a) ≠ true) : readAll (splitW 32 s) = none := by
 obtain ⟨_, _, hr⟩ := h.2.1 hi
 rw [hr, before_split h hi hend, readAll_cons, if_neg hg]; rfl
theorem before_word {s : List UInt8} {a i : Nat} {acc : List StepM} (h : Before s a i acc) (hi : i ≤ s.length) (hend : i < s.length → s[i]? = some 32) (hg : goodW (stepW ((s.take i).drop a)) ((s.take i).drop a) = true) :
    Before s (i + 1) (i + 1) (acc ++ [stepW ((s.take i).drop a)]) := by
  obtain ⟨ha, _, hr⟩ := h.2.1 hi
  have hsp := before_split h hi hend
  rw [hsp, readAll_cons, if_pos hg] at hr
  refine ⟨by have := h.1; rw [List.length_append, List.length_singleton]; omega, fun h1 => ⟨Nat.le_refl _, fun j c h2 h3 => by omega, ?_⟩, fun h1 => ?_⟩
  · rw [hr, if_pos (by omega), Option.map_map]
    congr 1
    funext l
    simp
  rw [hr, if_neg (by omega)]
  rfl
attribute [local irreducible] mayS wordS stepW splitW readAll Before
section
variable {w : World}
theorem parse_ok22 (s : List UInt8) (hl : s.length ≤ 1000000) : Rets Tryz.prog 95 [str s] w fun v w' => ∃ x, v = .tuple #[x, I (parseS s).2] ∧ True ∧ Turn noB (rowD 60 3 stepCells x (parseS s).1) w w' := by
  have H := Sep.start0 w
  obtain ⟨res, hres⟩ : ∃ res, res = parseS s := ⟨_, rfl⟩
  rw [← hres]
  unfold parseS at hres
  refine rets1 Tryz.func95 rfl rfl rfl rfl ?_
  refine Sr (Am ?_)
  refine Am ?_
  refine Qn (FW_seq (Sr (Mv ?_)))
  refine Vt ?_
  refine Vg ?_
  refine Qn (Cp rfl (fun hc6 => ?_) (fun hc6 => ?_))
  · exact absurd hc6 (by omega)
  refine Sk (Sr (Am ?_))
  refine Qn (FW_seq (Sr (Am ?_)))
  refine Qn (FW_block (FW_loop' (fun i : Nat => [(0, str s), (4, I (((s.take i).count 32 : Nat) : Int)), (5, I i)]) (fun i w' => i ≤ s.length ∧ Sep w noB [] w') (fun i _ => s.length - i) 0 ⟨rfl, rfl, rfl, trivial⟩ ⟨Nat.zero_le _, H⟩ (fun i τ w11 hI => ?_)))
  obtain ⟨hi, H11⟩ := hI
  have hcl := count_le_len (s.take i) 32
  rw [List.length_take, Nat.min_eq_left hi] at hcl
  try simp only [upds, like, upd_ds, und_ds]
  refine FW_seq (Sr (Mv ?_))
  refine Mv ?_
  refine Vt ?_
  refine Vl ?_
  refine Qn (Cp rfl (fun hc16 => ?_) (fun hc16 => ?_))
  · have hlt : i < s.length := by omega
    obtain ⟨c, hc⟩ := get_some hlt
    have hcd : s.getD i 0 = c := getD_of hc
    have hsucc := count_succ hc
    refine Sk (FW_seq (FW_block (Sr (Mv ?_))))
    refine Mv ?_
    refine Vv (Gives.idxD rfl rfl (by omega)) ?_
    rw [hcd]
    refine Ve ?_
    refine Qn (Cp rfl (fun hc22 => ?_) (fun hc22 => ?_))
    · have hc32 : c = 32 := by rw [← UInt8.toNat_inj]; show c.toNat = 32; omega
      rw [if_pos hc32] at hsucc
      refine FW_region (Mv ?_)
      refine Vv (Gives.addI rfl rfl rfl (by omega)) (Am ?_)
      refine FL_nil (Qblk_normal (Qseq_normal (FW_region (Mv ?_))))
      refine Vv (Gives.addI rfl rfl rfl (by omega)) (Am ?_)
      refine FL_nil ?_
      exact Qround_normal (i + 1) ⟨rfl, by rw [hsucc]; rfl, rfl, trivial⟩ ⟨by omega, H11⟩ (by omega)
    have hc32 : ¬ c = 32 := fun e => by subst e; exact hc22 rfl
    rw [if_neg hc32] at hsucc
    refine FW_skip (Qblk_normal (Qseq_normal (FW_region (Mv ?_))))
    refine Vv (Gives.addI rfl rfl rfl (by omega)) (Am ?_)
    refine FL_nil ?_
    exact Qround_normal (i + 1) ⟨rfl, by rw [hsucc]; rfl, rfl, trivial⟩ ⟨by omega, H11⟩ (by omega)
  have hil : i = s.length := by omega
  rw [hil, List.take_length] at hcl
  rw [hil, List.take_length]
  refine FW_exit (Qseq_exit (Qround_exit (Qblk_exit (Qseq_normal (FW_seq (Sr (Mv ?_)))))))
  refine Vv (Gives.geq rfl rfl) (Qn ?_)
  refine Cp rfl (fun hc39 => ?_) (fun hc39 => ?_)
  · rw [if_pos (.inr (by omega))] at hres
    refine Sr (Am ?_)
    refine Am ?_
    refine Qn (Rs (Qfn_ret (hR := ?_)))
    exact ⟨.slice none 0 0, by rw [hres]; rfl, trivial, by rw [hres]; exact (Sep.nilD H11 60 3 stepCells).turn⟩
  rw [if_neg (fun h => by omega)] at hres
  refine Sk (Sr (Am ?_))
  refine Nx (Am ?_)
  refine Qn (FW_seq (Sr (Am ?_)))
  refine Qn (FW_block ?_)
  have H49 := Sep.nilD H11 60 3 stepCells
  refine FW_loop' (fun x : Nat × Nat × List StepM × Value => [(0, str s), (6, x.2.2.2), (7, I x.1), (8, I x.2.1)]) (fun x w' => (x.2.1 ≤ s.length + 1 ∧ x.1 ≤ s.length + 1 ∧ Before s x.1 x.2.1 x.2.2.1 ∧ (s = [] → x.2.2.1 = [])) ∧ Sep w noB [rowD 60 3 stepCells x.2.2.2 x.2.2.1] w') (fun x _ => s.length + 1 - x.2.1) (0, 0, [], _) ⟨rfl, rfl, rfl, rfl, trivial⟩ ⟨⟨by dsimp only; omega, by dsimp only; omega, before_zero s, fun _ => rfl⟩, H49⟩ (fun x τ w49 hI => ?_)
  obtain ⟨a, i, acc, v0⟩ := x
  obtain ⟨⟨hi, ha, hB, hE⟩, H49⟩ := hI
  dsimp only at hi ha hB hE H49
  have hal : acc.length ≤ a := by unfold Before at hB; exact hB.1
  obtain ⟨B, cb, rfl, hcb, hRd⟩ := Sep.formD H49 At0
  try simp only [upds, like, upd_ds]
  refine FW_seq (Sr (Mv ?_))
  refine Mv ?_
  refine Vt ?_
  refine Vv (Gives.leq rfl rfl) (Mv ?_)
  refine FL_splitP (t := 31) rfl (fun hs55 => ?_) (fun hs55 => ?_)
  · have hile : i ≤ s.length := by omega
    refine On (Mv ?_)
    refine On (Vv (Gives.neqT rfl rfl) (Pt ?_))
    refine Qn (Cp rfl (fun hc60 => ?_) (fun hc60 => ?_))
    · rw [if_neg hc60] at hres
      refine Sk (FW_seq (FW_block (FW_seq (Sr (Mv ?_)))))
      refine Mv ?_
      refine Vt ?_
      refine Vl ?_
      refine Mv ?_
      refine FL_splitP (t := 41) rfl (fun hs67 => ?_) (fun hs67 => ?_)
      · obtain ⟨c, hc⟩ := get_some (l := s) (i := i) (by omega)
        have hcd : s.getD i 0 = c := getD_of hc
        refine On (Mv ?_)
        refine On (Mv ?_)
        refine On (Vv (Gives.idxD rfl rfl (by omega)) ?_)
        rw [hcd]
        refine On (Vn ?_)
        refine Pt ?_
        refine Qn (Cp rfl (fun hc74 => ?_) (fun hc74 => ?_))
        · have hsk := before_skip hB hc (fun e => hc74 (by rw [e]; rfl))
          refine FW_exit (Qseq_exit (Qblk_exit (Qseq_normal (FW_region (Mv ?_)))))
          refine Vv (Gives.addI rfl rfl rfl (by omega)) (Am ?_)
          refine FL_nil ?_
          exact Qround_normal (a, i + 1, acc, .slice B acc.length cb) ⟨rfl, rfl, rfl, rfl, trivial⟩ ⟨⟨by dsimp only; omega, by dsimp only; omega, hsk, hE⟩, H49⟩ (by dsimp only; omega)
        have hc32 : c = 32 := by rw [← UInt8.toNat_inj]; show c.toNat = 32; omega
        have hend : i < s.length → s[i]? = some 32 := fun _ => by rw [hc, hc32]
        refine Sk (Sr ?_)
        have hai : a ≤ i := by unfold Before at hB; exact (hB.2.1 hile).1
        obtain ⟨q, hq⟩ : ∃ q, q = (s.take i).drop a := ⟨_, rfl⟩
        have hql : q.length ≤ 1000000 := by rw [hq, List.length_drop, List.length_take]; omega
        have hfx : fits (stepW q).n := step_fits
        obtain ⟨x, hx⟩ : ∃ x, x = stepW q := ⟨_, rfl⟩
        rw [← hx] at hfx
        refine Mv ?_
        refine Mv ?_
        refine Mv ?_
        refine Vv (Gives.sliceBothT rfl rfl rfl (by omega) (by omega)) ?_
        rw [← hq]
        refine FL_callQ H49 (step_ok22 q hql) (h := fun w86 H86 k85 => ?_)
        rw [← hx]
        refine FL_alloc H86 (h := fun b87 w88 H88 k87 => ?_)
        refine FL_storeAll H88 (h := fun w90 H90 => ?_)
        refine Qn (FW_seq (FW_seq (FW_drawS rfl H90 (h := fun hok91 w93 H93 => ?_))))
        refine FGloadAll hok91 0 H93 (h := ?_)
        refine FGcallQ hok91 1 [] H93 (mayS_ok22 x) (h := fun w96 H96 k95 => ⟨Stab_nil, ?_⟩)
        refine Gp hok91 2 rfl rfl (fun _ => (Gives.not rfl)) (Gm hok91 3 ?_)
        refine FG_split (t := 55) rfl (fun hs98 => ?_) (fun hs98 => ?_)
        · have hbad := before_bad hB hile hend (by
            rw [← hq, ← hx]
            intro h
            have := (goodW_iff.1 h).1
            rw [this] at hs98; cases hs98)
          rw [hbad] at hres
          dsimp only at hres
          refine FGoff hok91 4 rfl rfl (by kernel_rfl) ?_
          refine FGoff hok91 6 rfl rfl (by kernel_rfl) ?_
          refine FGoff hok91 7 rfl rfl (by kernel_rfl) ?_
          refine FGoff hok91 8 rfl rfl (by kernel_rfl) ?_
          refine FGoff hok91 9 rfl rfl (by kernel_rfl) ?_
          refine FGoff hok91 5 rfl rfl (by kernel_rfl) ?_
          refine FGoff hok91 10 rfl rfl (by kernel_rfl) ?_
          refine Gp hok91 11 rfl rfl (fun _ => Gives.pickT rfl rfl) (FG_end hok91 (by kernel_rfl) ?_)
          refine Qseq_normal (FW_cond_true rfl ?_)
          refine Sr (Am ?_)
          refine Am ?_
          refine Qn (Rs (Qblk_ret (Qseq_ret (Qround_ret (Qblk_ret (Qseq_ret (Qfn_ret (hR := ?_))))))))
          exact ⟨.slice none 0 0, by rw [hres]; rfl, trivial, by rw [hres]; exact ((Sep.nilD H96 60 3 stepCells).firsts (l := [_])).turn⟩
        have hmx : mayS x = true := by simpa using hs98
        refine FGloadAll hok91 4 H96 (h := ?_)
        refine Gm hok91 6 ?_
        refine Gm hok91 7 ?_
        refine Gm hok91 8 ?_
        refine Gp hok91 9 rfl rfl (fun _ => (Gives.sliceBothT rfl rfl rfl (by omega) (by omega))) ?_
        rw [← hq]
        refine FGcallQ hok91 5 [(9, true), (8, true), (7, true), (6, true)] H96 (word_ok22 x hmx hfx) (h := fun w108 H108 k107 => ⟨Stab_pure (Stab_pure (Stab_pure (Stab_pure (Stab_nil)))), ?_⟩)
        refine Gp hok91 10 rfl rfl (fun _ => (Gives.neqT rfl rfl)) (Gp hok91 11 rfl rfl (fun _ => Gives.pickF rfl rfl) ?_)
        refine FG_end hok91 (by kernel_rfl) ?_
        refine Qseq_normal (Cp rfl (fun hc111 => ?_) (fun hc111 => ?_))
        · have hbad := before_bad hB hile hend (by
            rw [← hq, ← hx]
            intro h
            exact hc111 (goodW_iff.1 h).2)
          rw [hbad] at hres
          dsimp only at hres
          refine Sr (Am ?_)
          refine Am ?_
          refine Qn (Rs (Qblk_ret (Qseq_ret (Qround_ret (Qblk_ret (Qseq_ret (Qfn_ret (hR := ?_))))))))
          exact ⟨.slice none 0 0, by rw [hres]; rfl, trivial, by rw [hres]; exact ((Sep.nilD H108 60 3 stepCells).firsts (l := [_])).turn⟩
        have hgood := before_word hB hile hend (by
          rw [← hq, ← hx]
          exact goodW_iff.2 ⟨hmx, Classical.not_not.1 hc111⟩)
        rw [← hq, ← hx] at hgood
        refine Sk (Sr (Mv ?_))
        refine FL_loadAll H108 (h := ?_)
        refine FL_buildSlice H108 (xs := [.tmp 65]) (out := [x].flatMap stepCells) (Elems.many rfl rfl Elems.nil) rfl rfl rfl (fun b119 w120 H120 k119 => ?_)
        refine FL_appendD H120 (news := [x]) At1 (by unfold maxLen; simp; omega) (by simp; omega) (cells_one (fun _ => rfl) [x]) (h := ?_)
        intro v2 w122 H122
        refine Am ?_
        refine Qn (FW_region (Mv ?_))
        refine Vv (Gives.addI rfl rfl rfl (by omega)) (Am ?_)
        refine FL_nil (Qblk_normal (Qseq_normal (FW_region (Mv ?_))))
        refine Vv (Gives.addI rfl rfl rfl (by omega)) (Am ?_)
        refine FL_nil ?_
        exact Qround_normal (i + 1, i + 1, acc ++ [x], v2) ⟨rfl, rfl, rfl, rfl, trivial⟩ ⟨⟨by dsimp only; omega, by dsimp only; omega, hgood, fun e => absurd e (by assumption)⟩, H122.drop0⟩ (by dsimp only; omega)
      have hend : i < s.length → s[i]? = some 32 := fun h => by omega
      refine Of (Of (Of (Of (Pf ?_))))
      refine Qn (FW_cond_false rfl ?_)
      refine Sk (Sr ?_)
      have hai : a ≤ i := by unfold Before at hB; exact (hB.2.1 hile).1
      obtain ⟨q, hq⟩ : ∃ q, q = (s.take i).drop a := ⟨_, rfl⟩
      have hql : q.length ≤ 1000000 := by rw [hq, List.length_drop, List.length_take]; omega
      have hfx : fits (stepW q).n := step_fits
      obtain ⟨x, hx⟩ : ∃ x, x = stepW q := ⟨_, rfl⟩
      rw [← hx] at hfx
      refine Mv ?_
      refine Mv ?_
      refine Mv ?_
      refine Vv (Gives.sliceBothT rfl rfl rfl (by omega) (by omega)) ?_
      rw [← hq]
      refine FL_callQ H49 (step_ok22 q hql) (h := fun w138 H138 k137 => ?_)
      rw [← hx]
      refine FL_alloc H138 (h := fun b139 w140 H140 k139 => ?_)
      refine FL_storeAll H140 (h := fun w142 H142 => ?_)
      refine Qn (FW_seq (FW_seq (FW_drawS rfl H142 (h := fun hok143 w145 H145 => ?_))))
      refine FGloadAll hok143 0 H145 (h := ?_)
      refine FGcallQ hok143 1 [] H145 (mayS_ok22 x) (h := fun w148 H148 k147 => ⟨Stab_nil, ?_⟩)
      refine Gp hok143 2 rfl rfl (fun _ => (Gives.not rfl)) (Gm hok143 3 ?_)
      refine FG_split (t := 55) rfl (fun hs150 => ?_) (fun hs150 => ?_)
      · have hbad := before_bad hB hile hend (by
          rw [← hq, ← hx]
          intro h
          have := (goodW_iff.1 h).1
          rw [this] at hs150; cases hs150)
        rw [hbad] at hres
        dsimp only at hres
        refine FGoff hok143 4 rfl rfl (by kernel_rfl) ?_
        refine FGoff hok143 6 rfl rfl (by kernel_rfl) ?_
        refine FGoff hok143 7 rfl rfl (by kernel_rfl) ?_
        refine FGoff hok143 8 rfl rfl (by kernel_rfl) ?_
        refine FGoff hok143 9 rfl rfl (by kernel_rfl) ?_
        refine FGoff hok143 5 rfl rfl (by kernel_rfl) ?_
        refine FGoff hok143 10 rfl rfl (by kernel_rfl) ?_
        refine Gp hok143 11 rfl rfl (fun _ => Gives.pickT rfl rfl) (FG_end hok143 (by kernel_rfl) ?_)
        refine Qseq_normal (FW_cond_true rfl ?_)
        refine Sr (Am ?_)
        refine Am ?_
        refine Qn (Rs (Qblk_ret (Qseq_ret (Qround_ret (Qblk_ret (Qseq_ret (Qfn_ret (hR := ?_))))))))
        exact ⟨.slice none 0 0, by rw [hres]; rfl, trivial, by rw [hres]; exact ((Sep.nilD H148 60 3 stepCells).firsts (l := [_])).turn⟩
      have hmx : mayS x = true := by simpa using hs150
      refine FGloadAll hok143 4 H148 (h := ?_)
      refine Gm hok143 6 ?_
      refine Gm hok143 7 ?_
      refine Gm hok143 8 ?_
      refine Gp hok143 9 rfl rfl (fun _ => (Gives.sliceBothT rfl rfl rfl (by omega) (by omega))) ?_
      rw [← hq]
      refine FGcallQ hok143 5 [(9, true), (8, true), (7, true), (6, true)] H148 (word_ok22 x hmx hfx) (h := fun w160 H160 k159 => ⟨Stab_pure (Stab_pure (Stab_pure (Stab_pure (Stab_nil)))), ?_⟩)
      refine Gp hok143 10 rfl rfl (fun _ => (Gives.neqT rfl rfl)) (Gp hok143 11 rfl rfl (fun _ => Gives.pickF rfl rfl) ?_)
      refine FG_end hok143 (by kernel_rfl) ?_
      refine Qseq_normal (Cp rfl (fun hc163 => ?_) (fun hc163 => ?_))
      · have hbad := before_bad hB hile hend (by
          rw [← hq, ← hx]
          intro h
          exact hc163 (goodW_iff.1 h).2)
        rw [hbad] at hres
        dsimp only at hres
        refine Sr (Am ?_)
        refine Am ?_
        refine Qn (Rs (Qblk_ret (Qseq_ret (Qround_ret (Qblk_ret (Qseq_ret (Qfn_ret (hR := ?_))))))))
        exact ⟨.slice none 0 0, by rw [hres]; rfl, trivial, by rw [hres]; exact ((Sep.nilD H160 60 3 stepCells).firsts (l := [_])).turn⟩
      have hgood := before_word hB hile hend (by
        rw [← hq, ← hx]
        exact goodW_iff.2 ⟨hmx, Classical.not_not.1 hc163⟩)
      rw [← hq, ← hx] at hgood
      refine Sk (Sr (Mv ?_))
      refine FL_loadAll H160 (h := ?_)
      refine FL_buildSlice H160 (xs := [.tmp 65]) (out := [x].flatMap stepCells) (Elems.many rfl rfl Elems.nil) rfl rfl rfl (fun b171 w172 H172 k171 => ?_)
      refine FL_appendD H172 (news := [x]) At1 (by unfold maxLen; simp; omega) (by simp; omega) (cells_one (fun _ => rfl) [x]) (h := ?_)
      intro v2 w174 H174
      refine Am ?_
      refine Qn (FW_region (Mv ?_))
      refine Vv (Gives.addI rfl rfl rfl (by omega)) (Am ?_)
      refine FL_nil (Qblk_normal (Qseq_normal (FW_region (Mv ?_))))
      refine Vv (Gives.addI rfl rfl rfl (by omega)) (Am ?_)
      refine FL_nil ?_
      exact Qround_normal (i + 1, i + 1, acc ++ [x], v2) ⟨rfl, rfl, rfl, rfl, trivial⟩ ⟨⟨by dsimp only; omega, by dsimp only; omega, hgood, fun e => absurd e (by assumption)⟩, H174.drop0⟩ (by dsimp only; omega)
    have hs0 : s = [] := by simpa using hc60
    have hfin : res = (acc, 0) := by rw [hres, if_pos hs0, hE hs0]
    refine FW_exit (Qseq_exit (Qround_exit (Qblk_exit (Qseq_normal (Sr (Mv ?_))))))
    refine Am ?_
    refine Am ?_
    refine Qn (FW_ret (Qfn_ret (hR := ?_)))
    exact ⟨_, by rw [hfin]; rfl, trivial, by rw [hfin]; exact H49.turn⟩
  have hr : readAll (splitW 32 s) = some acc := by unfold Before at hB; exact hB.2.2 (by omega)
  have hfin : res = (acc, 0) := by
    rw [hres, hr]
    by_cases e : s = []
    · rw [if_pos e, hE e]
    rw [if_neg e]
  refine Of (Of (Pf ?_))
  refine Qn (FW_cond_false rfl ?_)
  refine FW_exit (Qseq_exit (Qround_exit (Qblk_exit (Qseq_normal (Sr (Mv ?_))))))
  refine Am ?_
  refine Am ?_
  refine Qn (FW_ret (Qfn_ret (hR := ?_)))
  exact ⟨_, by rw [hfin]; rfl, trivial, by rw [hfin]; exact H49.turn⟩
end
def PredIn {α : Type} (w : World) (fv : Value) (enc : α → Value) (p : α → Bool) : Prop :=
 ∃ f fs cs, fv = .func (.func f) (List.toArray fs) (List.toArray cs) ∧ Enters Tryz.prog f ∧ ∀ x w', Kept noB w w' → Rets Tryz.prog f (fs ++ [enc x] ++ cs) w' fun v w'' => v = .bool (p x) ∧ Kept noB w' w''
theorem PredIn.keep {α : Type} {w w' : World} {fv : Value} {enc : α → Value} {p : α → Bool} (h : PredIn w fv enc p) (hk : Kept noB w w') : PredIn w' fv enc p := by
 obtain ⟨f, fs, cs, h1, h2, h3⟩ := h
 exact ⟨f, fs, cs, h1, h2, fun x w'' hk' => h3 x w'' (hk.trans0 hk')⟩
def idxI (o : Option Nat) : Int := match o with | none => -1 | some i => i
theorem idx_any {α : Type} {l : List α} {p : α → Bool} : decide (idxI (l.findIdx? p) ≥ 0) = l.any p := by
 cases h : l.findIdx? p with
 | none =>
  rw [List.findIdx?_eq_none_iff] at h
  show decide ((-1 : Int) ≥ 0) = _
  rw [eq_comm, show decide ((-1 : Int) ≥ 0) = false from rfl, List.any_eq_false]
  intro x hx
  rw [h x hx]; simp
 | some i =>
  obtain ⟨h1, h2, _⟩ := List.findIdx?_eq_some_iff_getElem.1 h
  show decide ((i : Int) ≥ 0) = _
  rw [eq_comm, decide_eq_true (show (i : Int) ≥ 0 by omega), List.any_eq_true]
  exact ⟨_, List.getElem_mem h1, h2⟩
section
variable {w : World}
theorem columnsF_ok {l : List ColM} {v fv : Value} {p : ColM → Bool} (hl : RowIn w v colCells 7 l) (hp : PredIn w fv (fun x => agg (colCells x)) p) : Rets Tryz.prog 152 [v, fv] w fun v w' => v = I (idxI (l.findIdx? p)) ∧ Kept noB w w' := by
 obtain ⟨A, m, rfl, ⟨hm, hm'⟩, hA⟩ := hl
 obtain ⟨f, fs, cs, rfl, hen, hcall⟩ := hp
 have H := Sep.start0 w
 refine rets2 Tryz.func152 rfl rfl rfl rfl ?_
 refine Sr (Am ?_)
 refine Qn (FW_seq (Sr (Mv ?_)))
 refine Vs ?_
 refine Mv ?_
 refine Qn (FW_block (FW_loop' (fun i : Nat => [(0, .slice A l.length m), (1, .func (.func f) fs.toArray cs.toArray), (7, I l.length), (8, I i)]) (fun i w' => (i ≤ l.length ∧ ∀ (j : Nat) y, j < i → l[j]? = some y → p y = false) ∧ Sep w noB [] w') (fun i _ => l.length - i) 0 ⟨rfl, rfl, rfl, rfl, trivial⟩ ⟨⟨Nat.zero_le _, fun j y hj => by omega⟩, H⟩ (fun i τ w6 hI => ?_)))
 obtain ⟨⟨hi, hbe⟩, H6⟩ := hI
 try simp only [upds, like, upd_ds, und_ds]
 refine Sr (Vl ?_)
 refine Qn (FW_seq (Cp rfl (fun hc8 => ?_) (fun hc8 => ?_)))
 ·have hlt : i < l.length := by omega
  obtain ⟨x, hx⟩ := get_some hlt
  refine Sk (FW_seq (FW_block (Sr (Mv ?_))))
  refine Am ?_
  refine Nx (Mv ?_)
  refine Mv ?_
  refine Mv ?_
  refine Vv (Gives.idxR rfl rfl (by assumption) (by omega)) (Vv (Gives.loadE0 rfl H6 (by assumption) (by assumption)) ?_)
  refine FL_callV rfl (hcall x _ H6.kept) rfl rfl (fun v' w18 hv => ?_)
  obtain ⟨rfl, hkk⟩ := hv
  have H18 := H6.keep hkk
  refine Qn (Cd rfl (fun hc19 => ?_) (fun hc19 => ?_))
  ·have hfin : l.findIdx? p = some i := find_at hbe hx hc19
   refine Sr (Mv ?_)
   refine Am ?_
   refine Qn (Rb (Qround_ret (Qblk_ret (Qseq_ret (Qfn_ret (hR := ?_))))))
   exact ⟨by rw [hfin]; rfl, H18.kept⟩
  have hpx := hc19
  refine FW_skip (Qblk_normal (Qseq_normal (FW_region (Vv (Gives.addI rfl rfl rfl (by omega)) ?_))))
  refine Mv ?_
  refine FL_nil ?_
  exact Qround_normal (i + 1) ⟨rfl, rfl, rfl, rfl, trivial⟩ ⟨⟨by omega, fun j y hj hy => by
  by_cases e : j = i
  ·subst e; rw [hx] at hy; injection hy with hy; rw [← hy]; exact Bool.not_eq_true _ ▸ hpx
  exact hbe j y (by omega) hy⟩, H18⟩ (by omega)
 have hil : i = l.length := by omega
 have hfin : l.findIdx? p = none := findNone fun j y hy => hbe j y (by have := get_lt hy; omega) hy
 refine FW_exit (Qseq_exit (Qround_exit (Qblk_exit (Qseq_normal (Sr (Am ?_))))))
 refine Qn (FW_ret (Qfn_ret (hR := ?_)))
 exact ⟨by rw [hfin]; rfl, H6.kept⟩
theorem typesF_ok {l : List TypeM} {v fv : Value} {p : TypeM → Bool} (hl : RowIn w v typeCells 2 l) (hp : PredIn w fv (fun x => agg (typeCells x)) p) : Rets Tryz.prog 154 [v, fv] w fun v w' => v = I (idxI (l.findIdx? p)) ∧ Kept noB w w' := by
 obtain ⟨A, m, rfl, ⟨hm, hm'⟩, hA⟩ := hl
 obtain ⟨f, fs, cs, rfl, hen, hcall⟩ := hp
 have H := Sep.start0 w
 refine rets2 Tryz.func154 rfl rfl rfl rfl ?_
 refine Sr (Am ?_)
 refine Qn (FW_seq (Sr (Mv ?_)))
 refine Vs ?_
 refine Mv ?_
 refine Qn (FW_block (FW_loop' (fun i : Nat => [(0, .slice A l.length m), (1, .func (.func f) fs.toArray cs.toArray), (7, I l.length), (8, I i)]) (fun i w' => (i ≤ l.length ∧ ∀ (j : Nat) y, j < i → l[j]? = some y → p y = false) ∧ Sep w noB [] w') (fun i _ => l.length - i) 0 ⟨rfl, rfl, rfl, rfl, trivial⟩ ⟨⟨Nat.zero_le _, fun j y hj => by omega⟩, H⟩ (fun i τ w6 hI => ?_)))
 obtain ⟨⟨hi, hbe⟩, H6⟩ := hI
 try simp only [upds, like, upd_ds, und_ds]
 refine Sr (Vl ?_)
 refine Qn (FW_seq (Cp rfl (fun hc8 => ?_) (fun hc8 => ?_)))
 ·have hlt : i < l.length := by omega
  obtain ⟨x, hx⟩ := get_some hlt
  refine Sk (FW_seq (FW_block (Sr (Mv ?_))))
  refine Am ?_
  refine Nx (Mv ?_)
  refine Mv ?_
  refine Mv ?_
  refine Vv (Gives.idxR rfl rfl (by assumption) (by omega)) (Vv (Gives.loadE0 rfl H6 (by assumption) (by assumption)) ?_)
  refine FL_callV rfl (hcall x _ H6.kept) rfl rfl (fun v' w18 hv => ?_)
  obtain ⟨rfl, hkk⟩ := hv
  have H18 := H6.keep hkk
  refine Qn (Cd rfl (fun hc19 => ?_) (fun hc19 => ?_))
  ·have hfin : l.findIdx? p = some i := find_at hbe hx hc19
   refine Sr (Mv ?_)
   refine Am ?_
   refine Qn (Rb (Qround_ret (Qblk_ret (Qseq_ret (Qfn_ret (hR := ?_))))))
   exact ⟨by rw [hfin]; rfl, H18.kept⟩
  have hpx := hc19
  refine FW_skip (Qblk_normal (Qseq_normal (FW_region (Vv (Gives.addI rfl rfl rfl (by omega)) ?_))))
  refine Mv ?_
  refine FL_nil ?_
  exact Qround_normal (i + 1) ⟨rfl, rfl, rfl, rfl, trivial⟩ ⟨⟨by omega, fun j y hj hy => by
  by_cases e : j = i
  ·subst e; rw [hx] at hy; injection hy with hy; rw [← hy]; exact Bool.not_eq_true _ ▸ hpx
  exact hbe j y (by omega) hy⟩, H18⟩ (by omega)
 have hil : i = l.length := by omega
 have hfin : l.findIdx? p = none := findNone fun j y hy => hbe j y (by have := get_lt hy; omega) hy
 refine FW_exit (Qseq_exit (Qround_exit (Qblk_exit (Qseq_normal (Sr (Am ?_))))))
 refine Qn (FW_ret (Qfn_ret (hR := ?_)))
 exact ⟨by rw [hfin]; rfl, H6.kept⟩
end
section
variable {w : World}
theorem typesAny_ok {l : List TypeM} {v fv : Value} {p : TypeM → Bool} (hl : RowIn w v typeCells 2 l) (hp : PredIn w fv (fun x => agg (typeCells x)) p) : Rets Tryz.prog 106 [v, fv] w fun v w' => v = .bool (l.any p) ∧ Kept noB w w' := by
 have H := Sep.start0 w
 refine rets2 Tryz.func106 rfl rfl rfl rfl ?_
 refine Sr (Am ?_)
 refine Nx (Mv ?_)
 refine Mv ?_
 refine FL_callQ H (typesF_ok (hl.keep H.kept) (hp.keep H.kept)) (h := fun w5 H5 k4 => ?_)
 refine Vv (Gives.geq rfl rfl) (Am ?_)
 refine Qn (FW_ret (Qfn_ret (hR := ?_)))
 exact ⟨by rw [← idx_any]; rfl, H5.kept⟩
theorem intsI_ok {l : List (Int)} {v : Value} (x : Int) (hl : RowIn w v intCells 1 l) : Rets Tryz.prog 155 [v, I x] w fun v w' => v = I (idxI (l.findIdx? fun y => decide (x = y))) ∧ Kept noB w w' := by
 obtain ⟨A, m, rfl, ⟨hm, hm'⟩, hA⟩ := hl
 have H := Sep.start0 w
 obtain ⟨p, hp⟩ : ∃ p : Int → Bool, p = fun y => decide (x = y) := ⟨_, rfl⟩
 rw [← hp]
 refine rets2 Tryz.func155 rfl rfl rfl rfl ?_
 refine Sr (Am ?_)
 refine Qn (FW_seq (Sr (Mv ?_)))
 refine Vs ?_
 refine Mv ?_
 refine Qn (FW_block (FW_loop' (fun i : Nat => [(0, .slice A l.length m), (1, I x), (7, I l.length), (8, I i)]) (fun i w' => (i ≤ l.length ∧ ∀ (j : Nat) y, j < i → l[j]? = some y → p y = false) ∧ Sep w noB [] w') (fun i _ => l.length - i) 0 ⟨rfl, rfl, rfl, rfl, trivial⟩ ⟨⟨Nat.zero_le _, fun j y hj => by omega⟩, H⟩ (fun i τ w6 hI => ?_)))
 obtain ⟨⟨hi, hbe⟩, H6⟩ := hI
 try simp only [upds, like, upd_ds, und_ds]
 refine Sr (Vl ?_)
 refine Qn (FW_seq (Cp rfl (fun hc8 => ?_) (fun hc8 => ?_)))
 ·have hlt : i < l.length := by omega
  obtain ⟨y, hy⟩ := get_some hlt
  refine Sk (FW_seq (FW_block (Sr (Mv ?_))))
  refine Am ?_
  refine Nx (Mv ?_)
  refine Mv ?_
  refine Mv ?_
  refine Vv (Gives.idxR rfl rfl (by assumption) (by omega)) (Vv (Gives.loadE1 rfl H6 (by assumption) (by assumption) rfl) ?_)
  refine Ve ?_
  refine Qn (Cp rfl (fun hc18 => ?_) (fun hc18 => ?_))
  ·have hfin : l.findIdx? p = some i := find_at hbe hy (by rw [hp]; simpa using hc18)
   refine Sr (Mv ?_)
   refine Am ?_
   refine Qn (Rb (Qround_ret (Qblk_ret (Qseq_ret (Qfn_ret (hR := ?_))))))
   exact ⟨by rw [hfin]; rfl, H6.kept⟩
  have hpx : p y = false := by rw [hp]; simpa using hc18
  refine FW_skip (Qblk_normal (Qseq_normal (FW_region (Vv (Gives.addI rfl rfl rfl (by omega)) ?_))))
  refine Mv ?_
  refine FL_nil ?_
  exact Qround_normal (i + 1) ⟨rfl, rfl, rfl, rfl, trivial⟩ ⟨⟨by omega, fun j z hj hz => by
  by_cases e : j = i
  ·subst e; rw [hy] at hz; injection hz with hz; rw [← hz]; exact hpx
  exact hbe j z (by omega) hz⟩, H6⟩ (by omega)
 have hil : i = l.length := by omega
 have hfin : l.findIdx? p = none := findNone fun j y hy => hbe j y (by have := get_lt hy; omega) hy
 refine FW_exit (Qseq_exit (Qround_exit (Qblk_exit (Qseq_normal (Sr (Am ?_))))))
 refine Qn (FW_ret (Qfn_ret (hR := ?_)))
 exact ⟨by rw [hfin]; rfl, H6.kept⟩
theorem textsI_ok {l : List (List UInt8)} {v : Value} (x : List UInt8) (hl : RowIn w v textCells 1 l) : Rets Tryz.prog 144 [v, str x] w fun v w' => v = I (idxI (l.findIdx? fun y => decide (x = y))) ∧ Kept noB w w' := by
 obtain ⟨A, m, rfl, ⟨hm, hm'⟩, hA⟩ := hl
 have H := Sep.start0 w
 obtain ⟨p, hp⟩ : ∃ p : List UInt8 → Bool, p = fun y => decide (x = y) := ⟨_, rfl⟩
 rw [← hp]
 refine rets2 Tryz.func144 rfl rfl rfl rfl ?_
 refine Sr (Am ?_)
 refine Qn (FW_seq (Sr (Mv ?_)))
 refine Vs ?_
 refine Mv ?_
 refine Qn (FW_block (FW_loop' (fun i : Nat => [(0, .slice A l.length m), (1, str x), (7, I l.length), (8, I i)]) (fun i w' => (i ≤ l.length ∧ ∀ (j : Nat) y, j < i → l[j]? = some y → p y = false) ∧ Sep w noB [] w') (fun i _ => l.length - i) 0 ⟨rfl, rfl, rfl, rfl, trivial⟩ ⟨⟨Nat.zero_le _, fun j y hj => by omega⟩, H⟩ (fun i τ w6 hI => ?_)))
 obtain ⟨⟨hi, hbe⟩, H6⟩ := hI
 try simp only [upds, like, upd_ds, und_ds]
 refine Sr (Vl ?_)
 refine Qn (FW_seq (Cp rfl (fun hc8 => ?_) (fun hc8 => ?_)))
 ·have hlt : i < l.length := by omega
  obtain ⟨y, hy⟩ := get_some hlt
  refine Sk (FW_seq (FW_block (Sr (Mv ?_))))
  refine Am ?_
  refine Nx (Mv ?_)
  refine Mv ?_
  refine Mv ?_
  refine Vv (Gives.idxR rfl rfl (by assumption) (by omega)) (Vv (Gives.loadE1 rfl H6 (by assumption) (by assumption) rfl) ?_)
  refine Vv (Gives.eqlT rfl rfl) (Qn ?_)
  refine Cp rfl (fun hc18 => ?_) (fun hc18 => ?_)
  ·have hfin : l.findIdx? p = some i := find_at hbe hy (by rw [hp]; simpa using hc18)
   refine Sr (Mv ?_)
   refine Am ?_
   refine Qn (Rb (Qround_ret (Qblk_ret (Qseq_ret (Qfn_ret (hR := ?_))))))
   exact ⟨by rw [hfin]; rfl, H6.kept⟩
  have hpx : p y = false := by rw [hp]; simpa using hc18
  refine FW_skip (Qblk_normal (Qseq_normal (FW_region (Vv (Gives.addI rfl rfl rfl (by omega)) ?_))))
  refine Mv ?_
  refine FL_nil ?_
  exact Qround_normal (i + 1) ⟨rfl, rfl, rfl, rfl, trivial⟩ ⟨⟨by omega, fun j z hj hz => by
  by_cases e : j = i
  ·subst e; rw [hy] at hz; injection hz with hz; rw [← hz]; exact hpx
  exact hbe j z (by omega) hz⟩, H6⟩ (by omega)
 have hil : i = l.length := by omega
 have hfin : l.findIdx? p = none := findNone fun j y hy => hbe j y (by have := get_lt hy; omega) hy
 refine FW_exit (Qseq_exit (Qround_exit (Qblk_exit (Qseq_normal (Sr (Am ?_))))))
 refine Qn (FW_ret (Qfn_ret (hR := ?_)))
 exact ⟨by rw [hfin]; rfl, H6.kept⟩
theorem intsHas_ok {l : List (Int)} {v : Value} (x : Int) (hl : RowIn w v intCells 1 l) : Rets Tryz.prog 108 [v, I x] w fun v w' => v = .bool (l.any fun y => decide (x = y)) ∧ Kept noB w w' := by
 have H := Sep.start0 w
 refine rets2 Tryz.func108 rfl rfl rfl rfl ?_
 refine Sr (Am ?_)
 refine Nx (Mv ?_)
 refine Mv ?_
 refine FL_callQ H (intsI_ok x (hl.keep H.kept)) (h := fun w5 H5 k4 => ?_)
 refine Vv (Gives.geq rfl rfl) (Am ?_)
 refine Qn (FW_ret (Qfn_ret (hR := ?_)))
 exact ⟨by rw [← idx_any]; rfl, H5.kept⟩
end
end Go.Proofs.YtolaedhdjcnijaaGreatDoor
namespace Go.Mw
open Go.RowKit
section gives
variable {P : Program} {ρ : Operand → Value} {ty : TypeId} {w : World} {x y z : Operand}
theorem Gives.sliceMax {t e : TypeId} [ht : IsSlice P t e] {size bytes : Nat} [hc : Cells P e size bytes] {A : Option Addr} {n c h m : Nat} {k j : IntKind} (hx : ρ x = .slice A n c) (hy : ρ y = .int k h) (hz : ρ z = .int j m) (hle : h ≤ m) (hle2 : m ≤ c) : Gives P ρ (.slice t x none (some y) (some z)) ty w (.slice A h m) w := fun _ _ _ _ => by
 obtain ⟨i, hi, hsb⟩ := Option.map_eq_some_iff.1 hc.size
 have e1 : (0 : Int) ≤ (h : Int) ∧ (h : Int) ≤ (m : Int) := by omega
 have e2 : (0 : Int) ≤ (m : Int) ∧ (m : Int) ≤ (c : Int) := by omega
 have e3 : A.map (fun x : Addr => x.add 0) = A := by cases A <;> simp [Addr.add_zero']
 simp [execOp, hx, hy, hz, Instr.sliceAt, run_underlying ht.und, Instr.slice, Instr.sliceBounds, Instr.sliceBound, asIntOf, e1, e2, sizeOf, typeInfo, hi, e3, hle, hle2]
end gives
end Go.Mw
namespace Go.Proofs.YtolaedhdjcnijaaGreatDoor
open Go Go.Mw Go.Lib
set_option maxRecDepth 4000
section
variable {w : World}
theorem typesTake_ok {b E n c k : Nat} {A : Option Addr} {F : Nat → Prop} (hp : (blk b [.slice A n c] E).ok F w) (hk : k ≤ n) (hnc : n ≤ c) (hc : n ≤ 9223372036854775807) :
    Rets Tryz.prog 63 [.pointer (some ⟨b, 0, none⟩), I k] w fun v w' => v = .tuple #[.slice (if c = n - k then A else A.map (·.add ((n - k) * 2))) k (c - (n - k)), .bool true] ∧ Turn F (blk b [.slice A (n - k) (n - k)] E) w w' := by
  have H := Sep.start1 hp
  refine rets2 Tryz.func63 rfl rfl rfl rfl ?_
  refine Sr (Am ?_)
  refine Am ?_
  refine Nx (Mv ?_)
  refine Vv (Gives.nilCheck rfl) (Vf ?_)
  refine Ld H ?_
  refine Vs ?_
  refine Mv ?_
  refine Vv (Gives.subI (c := ((n - k : Nat) : Int)) rfl rfl (by omega) (by omega)) (Am ?_)
  refine Qn (FW_seq (Sr (Mv ?_)))
  refine Vl ?_
  refine Qn (Cp rfl (fun hc13 => ?_) (fun hc13 => ?_))
  · exact absurd hc13 (by omega)
  refine Sk (Sr (Mv ?_))
  refine Vv (Gives.nilCheck rfl) (Vf ?_)
  refine Ld H ?_
  refine Mv ?_
  refine Vv (Gives.sliceFrom rfl rfl (by omega)) ?_
  rw [show n - (n - k) = k by omega]
  refine Am ?_
  refine Nx (Mv ?_)
  refine Mv ?_
  refine Vv (Gives.nilCheck rfl) (Vf ?_)
  refine Ld H ?_
  refine Mv ?_
  refine Mv ?_
  refine Vv (Gives.sliceMax rfl rfl rfl (by omega) (by omega)) (Vv (Gives.nilCheck rfl) ?_)
  refine Vf ?_
  refine FL_store H (h := fun w33 H33 => ?_)
  refine Nx (Mv ?_)
  refine Am ?_
  refine Am ?_
  refine Qn (FW_ret (Qfn_ret (hR := ?_)))
  exact ⟨rfl, H33.turn⟩
theorem typesTakeNo_ok {b E n c k : Nat} {A : Option Addr} {F : Nat → Prop} (hp : (blk b [.slice A n c] E).ok F w) (hk : n < k) (hk2 : k ≤ 1000000) :
    Rets Tryz.prog 63 [.pointer (some ⟨b, 0, none⟩), I k] w fun v w' => v = .tuple #[.slice none 0 0, .bool false] ∧ Turn F (blk b [.slice A n c] E) w w' := by
  have H := Sep.start1 hp
  refine rets2 Tryz.func63 rfl rfl rfl rfl ?_
  refine Sr (Am ?_)
  refine Am ?_
  refine Nx (Mv ?_)
  refine Vv (Gives.nilCheck rfl) (Vf ?_)
  refine Ld H ?_
  refine Vs ?_
  refine Mv ?_
  refine Vv (Gives.subI rfl rfl rfl (by omega)) (Am ?_)
  refine Qn (FW_seq (Sr (Mv ?_)))
  refine Vl ?_
  refine Qn (Cp rfl (fun hc13 => ?_) (fun hc13 => ?_))
  · refine Sr (Am ?_)
    refine Am ?_
    refine Qn (Rs (Qfn_ret (hR := ?_)))
    exact ⟨rfl, H.turn⟩
  exact absurd (show ((n : Int) - k) < 0 by omega) hc13
theorem typesPut_ok {b E : Nat} {A : Option Addr} {F : Nat → Prop} {l news : List TypeM} {vn : Value} (hp : (blk b [.slice A l.length l.length] E).ok F w) (hr : Rd w A typeCells 2 l) (hn : RowIn w vn typeCells 2 news) (hne : 0 < news.length) (hlen : l.length + news.length ≤ 1000000) :
    Rets Tryz.prog 68 [.pointer (some ⟨b, 0, none⟩), vn] w fun v w' => ∃ x, v = .tuple #[] ∧ True ∧ Turn F (star (blk b [x] E) (rowD 45 2 typeCells x (l ++ news))) w w' := by
  obtain ⟨B, m, rfl, ⟨hm, hm'⟩, hB⟩ := hn
  have H := Sep.start1 hp
  refine rets2 Tryz.func68 rfl rfl rfl rfl ?_
  refine FW_region (Mv ?_)
  refine Mv ?_
  refine Vv (Gives.nilCheck rfl) (Vf ?_)
  refine Ld H ?_
  refine Mv ?_
  refine FL_appendF H hr hB hne (by unfold maxLen; omega) (by omega) (cells_one (fun _ => rfl) _) (h := ?_)
  intro v2 w8 H8 k7
  obtain ⟨B2, c2, rfl, hc2, hB2⟩ := Sep.formD H8 At0
  refine Vv (Gives.nilCheck rfl) (Vf ?_)
  refine FL_store H8 (h := fun w12 H12 => ?_)
  refine FL_nil (Qfn_normal (hR := ?_))
  exact ⟨_, rfl, trivial, (H12.front1.join0).turn⟩
theorem many_ok (k : Int) : Rets Tryz.prog 64 [I k] w fun v w' => v = I (takesS k) ∧ Kept noB w w' := by
 have H := Sep.start0 w
 obtain ⟨res, hres⟩ : ∃ res, res = takesS k := ⟨_, rfl⟩
 rw [← hres]
 unfold takesS at hres
 refine rets1 Tryz.func64 rfl rfl rfl rfl ?_
 refine Sr (Am ?_)
 refine Qn (FW_seq (FW_block (Sr (Mv ?_))))
 refine Vl ?_
 refine Am ?_
 refine Qn (Cp rfl (fun hc5 => ?_) (fun hc5 => ?_))
 ·rw [if_pos hc5] at hres
  refine Sr (Am ?_)
  refine Qn (Rb (Qfn_ret (hR := ?_)))
  exact ⟨by rw [hres]; rfl, H.kept⟩
 rw [if_neg hc5] at hres
 refine Sr (Mv ?_)
 refine Ve ?_
 refine Mv ?_
 refine FL_splitP (t := 9) rfl (fun hs13 => ?_) (fun hs13 => ?_)
 ·refine Of (Of (Pt ?_))
  refine Mv ?_
  refine Of (Of (Pt ?_))
  refine Mv ?_
  refine Of (Of (Pt ?_))
  refine Am ?_
  refine Qn (FW_cond_true rfl ?_)
  refine Sr (Am ?_)
  refine Qn (Rb (Qfn_ret (hR := ?_)))
  exact ⟨by rw [hres, if_pos (by omega)]; rfl, H.kept⟩
 refine On (Mv ?_)
 refine On (Ve ?_)
 refine Pf ?_
 refine Mv ?_
 refine FL_splitP (t := 13) rfl (fun hs26 => ?_) (fun hs26 => ?_)
 ·refine Of (Of (Pt ?_))
  refine Mv ?_
  refine Of (Of (Pt ?_))
  refine Am ?_
  refine Qn (FW_cond_true rfl ?_)
  refine Sr (Am ?_)
  refine Qn (Rb (Qfn_ret (hR := ?_)))
  exact ⟨by rw [hres, if_pos (by omega)]; rfl, H.kept⟩
 refine On (Mv ?_)
 refine On (Ve ?_)
 refine Pf ?_
 refine Mv ?_
 refine FL_splitP (t := 17) rfl (fun hs37 => ?_) (fun hs37 => ?_)
 ·refine Of (Of (Pt ?_))
  refine Am ?_
  refine Qn (FW_cond_true rfl ?_)
  refine Sr (Am ?_)
  refine Qn (Rb (Qfn_ret (hR := ?_)))
  exact ⟨by rw [hres, if_pos (by omega)]; rfl, H.kept⟩
 refine On (Mv ?_)
 refine On (Ve ?_)
 refine Pf ?_
 refine Am ?_
 refine Qn (Cp rfl (fun hc46 => ?_) (fun hc46 => ?_))
 ·refine Sr (Am ?_)
  refine Qn (Rb (Qfn_ret (hR := ?_)))
  exact ⟨by rw [hres, if_pos (by omega)]; rfl, H.kept⟩
 rw [if_neg (by omega)] at hres
 refine FW_skip (Qblk_normal (Qseq_normal (Sr (Am ?_))))
 refine Qn (FW_ret (Qfn_ret (hR := ?_)))
 exact ⟨by rw [hres]; rfl, H.kept⟩
theorem null_ok (k : Int) : Rets Tryz.prog 103 [I k] w fun v w' => v = str (nullW k) ∧ Kept noB w w' := by
 have H := Sep.start0 w
 obtain ⟨res, hres⟩ : ∃ res, res = nullW k := ⟨_, rfl⟩
 rw [← hres]
 unfold nullW at hres
 refine rets1 Tryz.func103 rfl rfl rfl rfl ?_
 refine Sr (Am ?_)
 refine Qn (FW_seq (Sr (Mv ?_)))
 refine Qn (FW_block (Sr (Ve ?_)))
 refine Am ?_
 refine Qn (Cp rfl (fun hc5 => ?_) (fun hc5 => ?_))
 ·rw [if_pos hc5] at hres
  refine Sr (Am ?_)
  refine Qn (Rb (Qfn_ret (hR := ?_)))
  exact ⟨by rw [hres]; rfl, H.kept⟩
 rw [if_neg hc5] at hres
 refine Sr (Ve ?_)
 refine Am ?_
 refine Qn (Cp rfl (fun hc12 => ?_) (fun hc12 => ?_))
 ·rw [if_pos hc12] at hres
  refine Sr (Am ?_)
  refine Qn (Rb (Qfn_ret (hR := ?_)))
  exact ⟨by rw [hres]; rfl, H.kept⟩
 rw [if_neg hc12] at hres
 refine Sr (Ve ?_)
 refine Am ?_
 refine Qn (Cp rfl (fun hc19 => ?_) (fun hc19 => ?_))
 ·rw [if_pos hc19] at hres
  refine Sr (Am ?_)
  refine Qn (Rb (Qfn_ret (hR := ?_)))
  exact ⟨by rw [hres]; rfl, H.kept⟩
 rw [if_neg hc19] at hres
 refine Sr (Ve ?_)
 refine Am ?_
 refine Qn (Cp rfl (fun hc26 => ?_) (fun hc26 => ?_))
 ·rw [if_pos hc26] at hres
  refine Sr (Am ?_)
  refine Qn (Rb (Qfn_ret (hR := ?_)))
  exact ⟨by rw [hres]; rfl, H.kept⟩
 rw [if_neg hc26] at hres
 refine FW_skip (Qblk_normal (Qseq_normal (Sr (Am ?_))))
 refine Qn (FW_ret (Qfn_ret (hR := ?_)))
 exact ⟨by rw [hres]; rfl, H.kept⟩
theorem cellMay_ok (t : TypeM) : Rets Tryz.prog 69 [agg (typeCells t)] w fun v w' => v = .bool (mayT t) ∧ Kept noB w w' := by
 have H := Sep.start0 w
 refine rets1 Tryz.func69 rfl rfl rfl rfl ?_
 refine Sr (FL_box H (cs := typeCells t) rfl (h := fun b0 w2 H2 k0 => ?_))
 refine Am ?_
 refine Nx (Vf ?_)
 refine Ld H2 ?_
 refine Vg ?_
 refine Mv ?_
 refine FL_splitP (t := 6) rfl (fun hs8 => ?_) (fun hs8 => ?_)
 ·refine On (Vf ?_)
  refine On (Ld H2 ?_)
  refine On (Vl ?_)
  refine Pt ?_
  refine Am ?_
  refine Qn (FW_ret (Qfn_ret (hR := ?_)))
  exact ⟨by unfold mayT; exact congrArg Value.bool (decide_eq_decide.2 (by omega)), H2.kept⟩
 refine Of (Of (Of (Pf ?_)))
 refine Am ?_
 refine Qn (FW_ret (Qfn_ret (hR := ?_)))
 exact ⟨by unfold mayT; rw [decide_eq_false (by omega)]; rfl, H2.kept⟩
end
end Go.Proofs.YtolaedhdjcnijaaGreatDoor
