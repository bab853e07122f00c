/-
 Texts of plans: written, read back. No program stands here.
-/
import Derived.Test.YtolaedhdjcnijaaGreatDoorKt21
import Derived.Test.YtolaedhdjcnijaaGreatDoorKt22
set_option linter.unusedVariables false
set_option linter.unusedSimpArgs false
namespace Go.Proofs.YtolaedhdjcnijaaGreatDoor
open Go Go.Lib Go.Mw
set_option maxRecDepth 4000
theorem unlines_join : ∀ l : List (List UInt8), unlines l = joinW 10 (l ++ [[]])
 | [] => rfl
 | [w] => by simp [unlines, joinW]
 | w :: x :: l => by
  have ih := unlines_join (x :: l)
  unfold unlines at ih ⊢
  rw [List.flatMap_cons, ih]
  show w ++ [10] ++ _ = w ++ 10 :: joinW 10 (x :: l ++ [[]])
  simp
theorem lines_unlines {ls : List (List UInt8)} (h : ∀ w ∈ ls, ∀ c ∈ w, c ≠ 10) : linesL (unlines ls) = (ls, true) := by
 have hs : splitW 10 (unlines ls) = ls ++ [[]] := by
  rw [unlines_join]
  refine split_join (by simp) fun w hw => ?_
  rcases List.mem_append.1 hw with h1 | h1
  ·exact h w h1
  rw [List.mem_singleton.1 h1]; intro c hc; cases hc
 unfold linesL
 rw [hs, if_pos (by simp)]
 simp
theorem splitP_ne (s : List UInt8) : splitW 10 s ≠ [] := fun e => by
 have := join_split 10 s
 cases s with
 | nil => cases e
 | cons c l => rw [e] at this; cases this
/-! Lines bear no line feed. -/
theorem vis_itoa (n : Int) : ∀ c ∈ itoa n, c ≠ 10 := by
 intro c hc e
 subst e
 have key : ∀ u, (10 : UInt8) ∉ decDigits u := fun u h => by
  have := decDigits_dig u _ h
  simp [isDig] at this
 unfold itoa at hc
 split at hc
 ·rcases List.mem_cons.1 hc with h | h
  ·exact absurd h (by decide)
  exact key _ h
 exact key _ hc
theorem hexB_ne10 {d : Nat} (h : d < 16) : hexB d ≠ 10 := by
 have key : ∀ d : Fin 16, hexB d.val ≠ 10 := by decide
 exact key ⟨d, h⟩
theorem vis_quoteC (c : UInt8) : ∀ x ∈ quoteC c, x ≠ 10 := by
 have key : ∀ i : Fin 256, ∀ x ∈ quoteC (UInt8.ofNat i.val), x ≠ 10 := by decide +kernel
 have := key ⟨c.toNat, c.toNat_lt⟩
 simpa using this
theorem vis_word {x : StepM} (h : mayS x = true) : ∀ c ∈ wordS x, c ≠ 10 := by
 obtain ⟨k, n, s⟩ := x
 unfold mayS at h
 unfold wordS
 dsimp only at h ⊢
 by_cases k1 : k = 1
 ·rw [if_pos k1]
  intro c hc
  rcases List.mem_cons.1 hc with rfl | hc
  ·decide
  exact vis_itoa n c hc
 rw [if_neg k1] at h ⊢
 by_cases k2 : k = 2
 ·rw [if_pos k2]; exact vis_itoa n
 rw [if_neg k2] at h ⊢
 by_cases k3 : k = 3
 ·rw [if_pos k3]
  split <;> decide
 rw [if_neg k3] at h ⊢
 by_cases k4 : k = 4
 ·rw [if_pos k4, textW_eq]
  intro c hc
  rcases List.mem_cons.1 hc with rfl | hc
  ·decide
  rcases List.mem_append.1 hc with hc | hc
  ·obtain ⟨y, _, hy⟩ := List.mem_flatMap.1 hc
   exact vis_quoteC y c hy
  simp only [List.mem_singleton] at hc; subst hc; decide
 rw [if_neg k4] at h ⊢
 by_cases k5 : k = 5
 ·rw [if_pos k5]
  intro c hc
  rcases List.mem_cons.1 hc with rfl | hc
  ·decide
  obtain ⟨y, _, hy⟩ := List.mem_flatMap.1 hc
  simp only [List.mem_cons, List.not_mem_nil, or_false] at hy
  rcases hy with rfl | rfl
  ·exact hexB_ne10 (by have := y.toNat_lt; omega)
  exact hexB_ne10 (by omega)
 rw [if_neg k5] at h ⊢
 by_cases k6 : k = 6
 ·subst k6
  rw [if_pos rfl] at h ⊢
  simp only [decide_eq_true_eq] at h
  obtain ⟨_, hn⟩ := h
  have : n = 1 ∨ n = 3 ∨ n = 4 ∨ n = 5 := by omega
  rcases this with rfl | rfl | rfl | rfl <;> decide
 rw [if_neg k6] at h ⊢
 simp only [decide_eq_true_eq] at h
 obtain ⟨ha, hb, _, _⟩ := h
 have : k = 7 ∨ k = 8 ∨ k = 9 ∨ k = 10 ∨ k = 11 ∨ k = 12 ∨ k = 13 ∨ k = 14 ∨ k = 15 ∨ k = 16 ∨ k = 17 ∨ k = 18 := by omega
 rcases this with rfl | rfl | rfl | rfl | rfl | rfl | rfl | rfl | rfl | rfl | rfl | rfl <;> decide
theorem vis_join : ∀ {ws : List (List UInt8)}, (∀ w ∈ ws, ∀ c ∈ w, c ≠ 10) → ∀ c ∈ joinW 32 ws, c ≠ 10
 | [], _ => by intro c hc; cases hc
 | [w], h => h w List.mem_cons_self
 | w :: x :: l, h => by
  intro c hc
  have hc : c ∈ w ++ 32 :: joinW 32 (x :: l) := hc
  rcases List.mem_append.1 hc with h1 | h1
  ·exact h w List.mem_cons_self c h1
  rcases List.mem_cons.1 h1 with rfl | h1
  ·decide
  exact vis_join (fun y hy => h y (List.mem_cons_of_mem _ hy)) c h1
def StepsFit (l : List StepM) : Prop := ∀ x ∈ l, fits x.n
theorem text_may {l : List StepM} (h : (textS l).2 = 0) : l.length ≤ 64 ∧ (∀ x ∈ l, mayS x = true) ∧ textS l = (joinW 32 (l.map wordS), 0) := by
 unfold textS at h ⊢
 split at h
 ·cases h
 rename_i h1
 split at h
 ·cases h
 rename_i h2
 rw [if_neg h1, if_neg h2]
 rw [Bool.not_eq_false, List.all_eq_true] at h2
 exact ⟨by omega, h2, rfl⟩
theorem text_vis {l : List StepM} (h : (textS l).2 = 0) : ∀ c ∈ (textS l).1, c ≠ 10 := by
 obtain ⟨_, h2, h3⟩ := text_may h
 rw [h3]
 exact vis_join fun w hw => by
  obtain ⟨x, hx, rfl⟩ := List.mem_map.1 hw
  exact vis_word (h2 x hx)
theorem text_back {l : List StepM} (h : (textS l).2 = 0) (hf : StepsFit l) : parseS (textS l).1 = (l, 0) := by
 obtain ⟨h1, h2, h3⟩ := text_may h
 rw [h3]
 exact (parse_text (fun x hx => ⟨h2 x hx, hf x hx⟩) h1).2.1
theorem nameB_ne {s : List UInt8} (h : isNameS s = true) : (∀ c ∈ s, c ≠ 10) ∧ (∀ c ∈ s, c ≠ 32) := by
 unfold isNameS at h
 simp only [Bool.and_eq_true, List.all_eq_true] at h
 have key : ∀ i : Fin 256, nameB (UInt8.ofNat i.val) = true → UInt8.ofNat i.val ≠ 10 ∧ UInt8.ofNat i.val ≠ 32 := by decide +kernel
 have k2 : ∀ c : UInt8, nameB c = true → c ≠ 10 ∧ c ≠ 32 := fun c hc => by
  have := key ⟨c.toNat, c.toNat_lt⟩
  simp only [UInt8.ofNat_toNat] at this
  exact this hc
 exact ⟨fun c hc => (k2 c (h.2 c hc)).1, fun c hc => (k2 c (h.2 c hc)).2⟩
theorem ahead_self (b t : List UInt8) : aheadL b (b ++ t) = some t := by
 unfold aheadL
 rw [List.take_left', if_pos rfl, List.drop_left']
 ·rfl
 rfl
theorem ahead_eq {b s t : List UInt8} (h : aheadL b s = some t) : s = b ++ t := by
 unfold aheadL at h
 split at h
 ·rename_i h1
  injection h with h
  rw [← h]
  conv => lhs; rw [← List.take_append_drop b.length s, h1]
 cases h
theorem parse_none : (parseS noneW).2 = 4 := by rw [← parseF_eq]; decide +kernel
theorem where_back {l : List StepM} (h : (textS l).2 = 0) (hf : StepsFit l) : whereL (lineW l) = some l := by
 unfold whereL lineW
 rw [ahead_self, Option.bind_some]
 by_cases h0 : l = []
 ·rw [if_pos h0, if_neg (by decide), if_pos rfl, h0]
 rw [if_neg h0]
 have hb := text_back h hf
 have h1 : (textS l).1 ≠ [] := fun e => by
  rw [e] at hb
  have : parseS [] = ([], 0) := rfl
  rw [this] at hb
  injection hb with hb
  exact h0 hb.symm
 have h2 : (textS l).1 ≠ noneW := fun e => by
  rw [e] at hb
  have := parse_none
  rw [hb] at this
  cases this
 rw [if_neg h1, if_neg h2, hb, if_pos rfl]
theorem idx_name {s t : List UInt8} (h : ∀ c ∈ s, c ≠ 32) : cutL (s ++ [32] ++ t) = some (s, t) := by
 have hi : (s ++ [32] ++ t).idxOf? 32 = some s.length := by
  rw [List.idxOf?, List.append_assoc, List.findIdx?_append]
  have : s.findIdx? (· == 32) = none := by
   rw [List.findIdx?_eq_none_iff]
   intro c hc
   simpa using h c hc
  rw [this]
  simp [List.findIdx?_cons]
 unfold cutL
 rw [hi, Option.map_some, List.append_assoc]
 congr 2
 ·rw [List.take_left']; rfl
 rw [← List.append_assoc]
 exact List.drop_left' (by simp)
theorem out_back {o : OutM} (hb : badO o = false) (hn : isNameS o.name = true) (hf : StepsFit o.steps) : outL (lineO o) = some o := by
 have hbb : ¬ ((textS o.steps).2 ≠ 0 ∨ (textS o.steps).1 = []) := of_decide_eq_false hb
 have h0 : (textS o.steps).2 = 0 := Classical.byContradiction fun h => hbb (.inl h)
 have h1 : (textS o.steps).1 ≠ [] := fun h => hbb (.inr h)
 have hp := text_back h0 hf
 have hs : o.steps ≠ [] := fun e => by
  rw [e] at h1
  exact h1 rfl
 unfold outL lineO
 have e : outW ++ o.name ++ [32] ++ (textS o.steps).1 = outW ++ (o.name ++ [32] ++ (textS o.steps).1) := by simp only [List.append_assoc]
 rw [e, ahead_self, Option.bind_some, idx_name (nameB_ne hn).2, Option.bind_some]
 dsimp only
 rw [hp, if_pos ⟨rfl, hs, hn⟩]
theorem group_back {g : Int} (h1 : -1 ≤ g) (h2 : g ≤ 1048576) : groupL (lineG g) = some g := by
 unfold groupL lineG
 rw [ahead_self, Option.bind_some]
 by_cases hg : g < 0
 ·rw [if_pos hg, if_pos rfl]
  congr 1
  omega
 rw [if_neg hg]
 obtain ⟨n, rfl⟩ := Int.eq_ofNat_of_zero_le (show 0 ≤ g by omega)
 have hit : itoa (n : Int) = decDigits n := by unfold itoa; rw [if_neg hg]; rfl
 have hne : itoa (n : Int) ≠ noneW := fun e => by
  rw [hit] at e
  have := decDigits_dig n 110 (by rw [e]; decide)
  exact absurd this (by decide)
 rw [if_neg hne, hit]
 unfold groupN
 rw [digitsD_dec, Option.bind_some, if_pos ⟨rfl, by omega⟩]
 rfl
theorem parse_some {t : List UInt8} (h : (parseS t).2 = 0) (h0 : t ≠ []) : (parseS t).1 ≠ [] := fun e => by
 have ht := text_parse (s := t) (l := (parseS t).1) (by rw [← h])
 rw [e] at ht
 injection ht with ht
 exact h0 ht.symm
theorem cols_back : ∀ {cs : List OutM} {g : Int}, (∀ o ∈ cs, badO o = false ∧ isNameS o.name = true ∧ StepsFit o.steps) → colsL (cs.map lineO ++ [lineG g]) = cs
 | [], g, _ => by
  have : outL (lineG g) = none := by
   unfold outL aheadL
   rw [if_neg]
   ·rfl
   unfold lineG groupW outW
   simp
  show colsL [lineG g] = []
  unfold colsL
  rw [this]
 | o :: cs, g, h => by
  obtain ⟨h1, h2, h3⟩ := h o List.mem_cons_self
  rw [List.map_cons, List.cons_append]
  unfold colsL
  rw [out_back h1 h2 h3]
  dsimp only
  rw [cols_back fun x hx => h x (List.mem_cons_of_mem _ hx)]
theorem named_cols {p : PlanM} (h : namedP p = true) : (1 ≤ p.cols.length ∧ p.cols.length ≤ 16 ∧ -1 ≤ p.group ∧ p.group ≤ p.cols.length) ∧ ∀ o ∈ p.cols, isNameS o.name = true := by
 unfold namedP at h
 simp only [Bool.and_eq_true, List.all_eq_true, decide_eq_true_eq] at h
 exact ⟨h.1.1, fun o ho => (h.1.2 o ho).1⟩
theorem may_parts {p : PlanM} : mayP p = true ↔ namedP p = true ∧ (textS p.wh).2 = 0 ∧ ∀ o ∈ p.cols, badO o = false := by
 unfold mayP
 simp only [Bool.and_eq_true, List.all_eq_true, decide_eq_true_eq, Bool.not_eq_true', and_assoc]
theorem lines_vis {p : PlanM} (h : mayP p = true) : ∀ w ∈ linesP p, ∀ c ∈ w, c ≠ 10 := by
 obtain ⟨h1, h2, h3⟩ := may_parts.1 h
 have hn := (named_cols h1).2
 have key : ∀ {a b : List UInt8}, (∀ c ∈ a, c ≠ 10) → (∀ c ∈ b, c ≠ 10) → ∀ c ∈ a ++ b, c ≠ 10 := fun ha hb c hc => (List.mem_append.1 hc).elim (ha c) (hb c)
 intro w hw
 unfold linesP at hw
 rcases List.mem_cons.1 hw with rfl | hw
 ·unfold lineW
  refine key (by decide) ?_
  split
  ·decide
  exact text_vis h2
 rcases List.mem_append.1 hw with hw | hw
 ·obtain ⟨o, ho, rfl⟩ := List.mem_map.1 hw
  have hb : ¬ ((textS o.steps).2 ≠ 0 ∨ (textS o.steps).1 = []) := of_decide_eq_false (h3 o ho)
  unfold lineO
  exact key (key (key (by decide) (nameB_ne (hn o ho)).1) (by decide)) (text_vis (Classical.byContradiction fun h => hb (.inl h)))
 rw [List.mem_singleton.1 hw]
 unfold lineG
 refine key (by decide) ?_
 split
 ·decide
 exact vis_itoa _
theorem plan_back {p : PlanM} (h : mayP p = true) (hw : StepsFit p.wh) (hc : ∀ o ∈ p.cols, StepsFit o.steps) (hl : (unlines (linesP p)).length ≤ 1048576) : parseP (unlines (linesP p)) = (p, 0, 0) := by
 obtain ⟨h1, h2, h3⟩ := may_parts.1 h
 obtain ⟨⟨n1, n2, n3, n4⟩, hn⟩ := named_cols h1
 have hlen : (linesP p).length = p.cols.length + 2 := by unfold linesP; simp
 have hcs : colsL (((linesP p).take (linesP p).length).drop 1) = p.cols := by
  rw [List.take_length]
  exact cols_back fun o ho => ⟨h3 o ho, hn o ho, hc o ho⟩
 have hg : (linesP p).getD (1 + p.cols.length) [] = lineG p.group := by
  unfold linesP
  rw [List.getD_eq_getElem?_getD, Nat.add_comm, List.getElem?_cons_succ, List.getElem?_append_right (by simp)]
  simp
 unfold parseP
 rw [if_neg (by omega), lines_unlines (lines_vis h)]
 dsimp only
 rw [if_pos rfl, if_neg (by omega)]
 have hw0 : (linesP p).getD 0 [] = lineW p.wh := rfl
 rw [hw0, where_back h2 hw]
 dsimp only
 rw [hcs, if_neg (by omega), hg, group_back n3 (by omega)]
 dsimp only
 rw [if_neg (by omega), if_neg (by show ¬ mayP p = false; rw [h]; decide)]
theorem split_count (sep : UInt8) : ∀ s : List UInt8, (splitW sep s).length = s.count sep + 1
 | [] => rfl
 | c :: l => by
  have ih := split_count sep l
  unfold splitW
  split
  ·rename_i h; subst h; simp [ih]
  rename_i h
  split
  ·rename_i w ws hw
   rw [hw] at ih
   rw [List.count_cons_of_ne (by simpa using h)]
   simpa using ih
  rename_i hw; rw [hw] at ih; simp at ih
end Go.Proofs.YtolaedhdjcnijaaGreatDoor
namespace Go.Proofs.YtolaedhdjcnijaaGreatDoor
open Go Go.Mw Go.Lib
set_option maxRecDepth 4000
def ahead1 (g : Int) (i : Nat) : Nat := if 0 ≤ g ∧ g < i then 1 else 0
theorem outs_snoc {α : Type} {l : List α} {i : Nat} {o : α} (h : l[i]? = some o) : l.drop i = o :: l.drop (i + 1) := by
 have hlt := get_lt h
 rw [List.drop_eq_getElem_cons hlt]
 rw [List.getElem?_eq_getElem hlt] at h
 injection h with h
 rw [h]
section
variable {w : World}
theorem checkE_ok {cols : List ColM} {p : PlanM} {vc vp : Value} (hc : RowIn w vc colCells 7 cols) (hp : PlanIn w vp p) (hfw : StepsFit p.wh) (hfc : ∀ o ∈ p.cols, StepsFit o.steps) (hn : p.cols.length ≤ 1000000) (hT : TabsX w) :
    Rets Tryz.prog 22 [vc, vp] w fun v w' => ∃ x, v = .tuple #[x, I (checkP cols p).2] ∧ True ∧ Turn noB (rowD 49 7 colCells x (checkP cols p).1) w w' := by
  have hp0 := hp
  obtain ⟨vw, vq, rfl, hw, r, hr, hraw⟩ := hp
  obtain ⟨A, m, rfl, ⟨hm, hm'⟩, hA⟩ := hr
  have hrl := hraw.len
  have H := Sep.start0 w
  obtain ⟨res, hres⟩ : ∃ res, res = checkP cols p := ⟨_, rfl⟩
  rw [← hres]
  unfold checkP at hres
  obtain ⟨C, n, rfl, ⟨hwn, hwn'⟩, hC⟩ := id hw
  refine rets2 Tryz.func22 rfl rfl rfl rfl ?_
  refine Sr (FL_box H (cs := [.slice C p.wh.length n, .slice A r.length m, I p.group]) rfl (h := fun b3 w2 H2 k1 => ?_))
  refine Am ?_
  refine Am ?_
  refine Qn (FW_seq (Sr (FL_loadAll H2 (h := ?_))))
  refine FL_callQ H2 (named_ok (hp0.keep H2.kept) (by omega)) (h := fun w7 H7 k6 => ?_)
  refine Vv (Gives.not rfl) (Qn ?_)
  refine Cd rfl (fun hc9 => ?_) (fun hc9 => ?_)
  · rw [if_pos (by simpa using hc9)] at hres
    refine Sr (Am ?_)
    refine Am ?_
    refine Qn (Rs (Qfn_ret (hR := ?_)))
    exact ⟨_, by rw [hres]; rfl, trivial, by rw [hres]; exact (Sep.nilD H7 49 7 colCells).first.turn⟩
  rw [if_neg (by simpa using hc9)] at hres
  have hn16 : p.cols.length ≤ 16 := (named_cols (by simpa using hc9)).1.2.1
  refine Sk (FW_cut (fun _ : Unit => [(0, vc), (3, selfP b3)]) (fun _ w' => res = outsP cols p.group 0 p.cols [] ∧ Sep w noB [blk b3 [.slice C p.wh.length n, .slice A r.length m, I p.group] 25] w') ?_ ?_)
  · refine Sr (Vf ?_)
    refine Ld H7 ?_
    refine Vs ?_
    refine Vg ?_
    refine Qn (Cp rfl (fun hc20 => ?_) (fun hc20 => ?_))
    · have hne : p.wh ≠ [] := fun e => by rw [e] at hc20; exact absurd hc20 (by decide)
      refine Sr (Mv ?_)
      refine Vf ?_
      refine Ld H7 ?_
      refine FL_callQ H7 (typeE_ok (hc.keep H7.kept) (hw.keep H7.kept) hfw (hT.keep H7.kept).utf) (h := fun w26 H26 k25 => ?_)
      refine Mv ?_
      refine Vx ?_
      refine Vx ?_
      refine FL_alloc H26 (h := fun b6 w31 H31 k30 => ?_)
      refine FL_storeAll H31 (h := fun w33 H33 => ?_)
      refine Am ?_
      refine Qn (FW_block (Sr (Mv ?_)))
      refine Vn ?_
      refine Am ?_
      refine Qn (Cp rfl (fun hc38 => ?_) (fun hc38 => ?_))
      · rw [if_pos ⟨hne, hc38⟩] at hres
        refine Sr (Mv ?_)
        refine Am ?_
        refine Am ?_
        refine Qn (FW_ret (Qblk_ret (Qcut_ret (Qfn_ret (hR := ?_)))))
        exact ⟨_, by rw [hres]; rfl, trivial, by rw [hres]; exact (Sep.nilD H33 49 7 colCells).first.turn⟩
      rw [if_neg (fun h => hc38 h.2)] at hres
      refine Sr (Vf ?_)
      refine Ld H33 ?_
      refine Vn ?_
      refine Am ?_
      refine Qn (Cp rfl (fun hc49 => ?_) (fun hc49 => ?_))
      · rw [if_pos ⟨hne, hc49⟩] at hres
        refine Sr (Am ?_)
        refine Am ?_
        refine Qn (FW_ret (Qblk_ret (Qcut_ret (Qfn_ret (hR := ?_)))))
        exact ⟨_, by rw [hres]; rfl, trivial, by rw [hres]; exact (Sep.nilD H33 49 7 colCells).first.turn⟩
      rw [if_neg (fun h => hc49 h.2)] at hres
      refine FW_skip (Qblk_normal ?_)
      exact Qcut_normal () ⟨rfl, rfl, trivial⟩ ⟨hres, H33.drop0⟩
    have he : p.wh = [] := List.eq_nil_of_length_eq_zero (by omega)
    rw [if_neg (fun h => h.1 he), if_neg (fun h => h.1 he)] at hres
    refine FW_skip ?_
    exact Qcut_normal () ⟨rfl, rfl, trivial⟩ ⟨hres, H7⟩
  rintro _ τ w59 ⟨hres2, H59⟩
  simp only [upds, like, upd_ds, und_ds]
  refine Sr (FL_alloc H59 (h := fun b8 w61 H61 k60 => ?_))
  refine Nx (Vv (Gives.makeFunc (fs := []) (us := []) (cs := [.tmp 8]) rfl rfl) (Am ?_))
  refine Nx (Vv (Gives.build (out := typeCells wholeT) (Fills.one rfl rfl rfl (by simp) rfl Fills.nil)) (FL_alloc H61 (h := fun b10 w66 H66 k65 => ?_)))
  refine FL_storeAll H66 (h := fun w68 H68 => ?_)
  refine Qn (FW_seq (Sr (Vf ?_)))
  refine Ld H68 ?_
  refine Vs ?_
  refine Mv ?_
  refine Qn (FW_block ?_)
  have H74 : Mw.Sep w noB [colsH b8 [], blk b10 (typeCells wholeT) 45, blk b3 [.slice C p.wh.length n, .slice A r.length m, I p.group] 25] w68 := by
    have h1 := (Sep.nilD (H68.front1) 49 7 colCells).front1
    exact Sep.pack0 (p := fun v => star (blk b8 [v] 40) (rowD 49 7 colCells v [])) _ (Sep.join0 h1)
  refine FW_loop' (fun x : Nat × List ColM => [(0, vc), (3, selfP b3), (8, selfP b8), (9, .func (.func 62) #[] #[selfP b8]), (10, selfP b10), (40, .slice A r.length m), (41, I r.length), (42, I x.1)]) (fun x w' => (x.1 ≤ r.length ∧ x.2.length = x.1 + ahead1 p.group x.1 ∧ outsP cols p.group x.1 (p.cols.drop x.1) x.2 = res) ∧ Sep w noB [colsH b8 x.2, blk b10 (typeCells wholeT) 45, blk b3 [.slice C p.wh.length n, .slice A r.length m, I p.group] 25] w') (fun x _ => r.length - x.1) (0, []) ⟨rfl, rfl, rfl, rfl, rfl, rfl, rfl, rfl, trivial⟩ ⟨⟨Nat.zero_le _, by dsimp only; unfold ahead1; rw [if_neg (by omega)]; rfl, hres2.symm⟩, H74⟩ (fun x τ w74 hI => ?_)
  obtain ⟨i, acc⟩ := x
  obtain ⟨⟨hi, hal, hst⟩, H74⟩ := hI
  dsimp only at hi hal hst H74
  have hai : ahead1 p.group i ≤ 1 := by unfold ahead1; split <;> omega
  have hal1 : acc.length ≤ i + 1 := by omega
  try simp only [upds, like, upd_ds]
  refine Sr (Vl ?_)
  refine Qn (FW_seq (Cp rfl (fun hc76 => ?_) (fun hc76 => ?_)))
  · have hlt : i < p.cols.length := by omega
    obtain ⟨vx, hx, hsx⟩ := hraw.at hlt
    obtain ⟨Ax, cx, rfl, _⟩ := id hsx
    have hpc : p.cols[i]? = some p.cols[i] := List.getElem?_eq_getElem hlt
    obtain ⟨o, ho⟩ : ∃ o, o = p.cols[i] := ⟨_, rfl⟩
    rw [← ho] at hx hsx hpc
    have hof := hfc o (List.mem_of_getElem? hpc)
    rw [outs_snoc hpc, outsP] at hst
    unfold ahead1 at hal
    refine Sk (FW_seq (FW_block (Sr (Mv ?_))))
    refine Vv (Gives.idxR rfl rfl (by assumption) (by omega)) (Vv (Gives.loadE0 rfl H74 (by assumption) (by assumption)) ?_)
    refine FL_alloc H74 (h := fun b12 w82 H82 k81 => ?_)
    refine Am ?_
    refine FL_storeAll H82 (h := fun w85 H85 => ?_)
    refine Nx (Mv ?_)
    refine Vf ?_
    refine Ld H85 ?_
    refine FL_callQ H85 (typeE_ok (hc.keep H85.kept) (hsx.keep H85.kept) hof (hT.keep H85.kept).utf) (h := fun w90 H90 k89 => ?_)
    refine Mv ?_
    refine Vx ?_
    refine Vx ?_
    refine FL_alloc H90 (h := fun b13 w95 H95 k94 => ?_)
    refine FL_storeAll H95 (h := fun w97 H97 => ?_)
    refine Am ?_
    refine Qn (FW_seq (Sr (Mv ?_)))
    refine Vn ?_
    refine Qn (Cp rfl (fun hc101 => ?_) (fun hc101 => ?_))
    · rw [if_pos hc101] at hst
      refine Sr (Mv ?_)
      refine Am ?_
      refine Am ?_
      refine Qn (Rs (Qblk_ret (Qseq_ret (Qround_ret (Qblk_ret (Qseq_ret (Qfn_ret (hR := ?_))))))))
      exact ⟨_, by rw [← hst]; rfl, trivial, by rw [← hst]; exact (Sep.nilD H97 49 7 colCells).first.turn⟩
    rw [if_neg hc101] at hst
    refine Sk (FW_cut (fun _ : Unit => [(0, vc), (3, selfP b3), (8, selfP b8), (9, .func (.func 62) #[] #[selfP b8]), (10, selfP b10), (11, I i), (12, selfP b12), (13, selfP b13), (40, .slice A r.length m), (41, I r.length), (42, I i)]) (fun _ w' => Sep w noB [blk b13 (typeCells (typeS cols o.steps).1) 45, blk b12 (outCells (o.name, .slice Ax o.steps.length cx)) 53, colsH b8 (if (i : Int) = p.group then acc ++ [colP ((i : Int) + 1) countW wholeT] else acc), blk b10 (typeCells wholeT) 45, blk b3 [.slice C p.wh.length n, .slice A r.length m, I p.group] 25] w') ?_ ?_)
    · refine Sr (Mv ?_)
      refine Vf ?_
      refine Ld H97 ?_
      refine Ve ?_
      refine Qn (Cp rfl (fun hc113 => ?_) (fun hc113 => ?_))
      · have hig : (i : Int) = p.group := hc113
        refine FW_region (Mv ?_)
        refine FL_loadAll H97 (h := ?_)
        obtain ⟨F0, hp0', hS0, hput0⟩ := H97.focus At2
        refine FL_callV (vals := [str countW, agg (typeCells wholeT)]) rfl (putCol_ok countW wholeT hp0' (by omega)) rfl rfl (fun v' w118 hv => ?_)
        obtain ⟨rfl, hkk, F1, hq, hsub⟩ := hv
        have H118 := hput0 _ F1 _ hkk hq hsub
        rw [if_neg (by omega)] at hal
        have hid : ((acc.length + 1 : Nat) : Int) = (i : Int) + 1 := by omega
        rw [hid] at H118
        refine FL_nil ?_
        exact Qcut_normal () ⟨rfl, rfl, rfl, rfl, rfl, rfl, rfl, rfl, rfl, rfl, rfl, trivial⟩ (by rw [if_pos hig]; exact H118)
      have hig : ¬ (i : Int) = p.group := hc113
      refine FW_skip ?_
      exact Qcut_normal () ⟨rfl, rfl, rfl, rfl, rfl, rfl, rfl, rfl, rfl, rfl, rfl, trivial⟩ (by rw [if_neg hig]; exact H97)
    intro _ τ w123 H123
    simp only [upds, like, upd_ds]
    refine FW_seq (Sr (Vf ?_))
    refine Ld H123 ?_
    refine Vv (Gives.geq rfl rfl) (Mv ?_)
    refine FL_splitP (t := 67) rfl (fun hs128 => ?_) (fun hs128 => ?_)
    · refine On (Mv ?_)
      refine On (Vf ?_)
      refine On (Ld H123 ?_)
      refine On (Vv (Gives.geq rfl rfl) (Pt ?_))
      refine Qn (Cp rfl (fun hc134 => ?_) (fun hc134 => ?_))
      · have hgi : 0 ≤ p.group ∧ p.group ≤ i := ⟨by omega, hc134⟩
        rw [if_pos hgi] at hst
        refine FW_seq (Sr (Vf ?_))
        refine Ld H123 ?_
        refine Vn ?_
        refine Qn (Cp rfl (fun hc139 => ?_) (fun hc139 => ?_))
        · rw [if_pos hc139] at hst
          refine Sr (Am ?_)
          refine Am ?_
          refine Qn (Rs (Qseq_ret (Qblk_ret (Qseq_ret (Qround_ret (Qblk_ret (Qseq_ret (Qfn_ret (hR := ?_)))))))))
          exact ⟨_, by rw [← hst]; rfl, trivial, by rw [← hst]; exact (Sep.nilD H123 49 7 colCells).first.turn⟩
        rw [if_neg hc139] at hst
        refine Sk (FW_region (FL_loadAll H123 (h := ?_)))
        refine FL_storeAll H123 (h := fun w147 H147 => ?_)
        refine Qn (FW_region (Mv ?_))
        refine Vf ?_
        refine Ld H147 ?_
        refine FL_loadAll H147 (h := ?_)
        obtain ⟨acc2, hacc2⟩ : ∃ acc2, acc2 = if (i : Int) = p.group then acc ++ [colP ((i : Int) + 1) countW wholeT] else acc := ⟨_, rfl⟩
        rw [← hacc2] at H147 hst
        have hal2 : acc2.length = i + 1 := by
          rw [hacc2]
          split
          · rw [if_neg (by omega)] at hal
            rw [List.length_append, List.length_singleton]; omega
          rw [if_pos (by omega)] at hal
          omega
        have hid : ((acc2.length + 1 : Nat) : Int) = (i : Int) + 2 := by omega
        obtain ⟨F0, hp0', hS0, hput0⟩ := H147.focus At2
        refine FL_callV (vals := [str o.name, agg (typeCells wholeT)]) rfl (putCol_ok o.name _ hp0' (by omega)) rfl rfl (fun v' w153 hv => ?_)
        obtain ⟨rfl, hkk, F1, hq, hsub⟩ := hv
        have H153 := hput0 _ F1 _ hkk hq hsub
        rw [hid] at H153
        refine FL_nil (Qblk_normal (Qseq_normal (FW_region (Vv (Gives.addI rfl rfl rfl (by omega)) ?_))))
        refine Mv ?_
        refine FL_nil ?_
        exact Qround_normal (i + 1, acc2 ++ [colP ((i : Int) + 2) o.name wholeT]) ⟨rfl, rfl, rfl, rfl, rfl, rfl, rfl, rfl, trivial⟩ ⟨⟨by dsimp only; omega, by dsimp only; rw [List.length_append, List.length_singleton]; unfold ahead1; rw [if_pos (by omega)]; omega, hst⟩, H153.drop0.drop0⟩ (by dsimp only; omega)
      have hgi : ¬ (0 ≤ p.group ∧ p.group ≤ i) := fun h => hc134 h.2
      rw [if_neg hgi] at hst
      refine Sk (FW_region (Mv ?_))
      refine Vf ?_
      refine Ld H123 ?_
      refine FL_loadAll H123 (h := ?_)
      rw [if_neg (show ¬ (i : Int) = p.group from fun e => hgi ⟨by omega, by omega⟩)] at H123
      rw [if_neg (by omega)] at hal
      have hid : ((acc.length + 1 : Nat) : Int) = (i : Int) + 1 := by omega
      obtain ⟨F0, hp0', hS0, hput0⟩ := H123.focus At2
      refine FL_callV (vals := [str o.name, agg (typeCells (typeS cols o.steps).1)]) rfl (putCol_ok o.name _ hp0' (by omega)) rfl rfl (fun v' w163 hv => ?_)
      obtain ⟨rfl, hkk, F1, hq, hsub⟩ := hv
      have H163 := hput0 _ F1 _ hkk hq hsub
      rw [hid] at H163
      refine FL_nil (Qblk_normal (Qseq_normal (FW_region (Vv (Gives.addI rfl rfl rfl (by omega)) ?_))))
      refine Mv ?_
      refine FL_nil ?_
      exact Qround_normal (i + 1, acc ++ [colP ((i : Int) + 1) o.name (typeS cols o.steps).1]) ⟨rfl, rfl, rfl, rfl, rfl, rfl, rfl, rfl, trivial⟩ ⟨⟨by dsimp only; omega, by dsimp only; rw [List.length_append, List.length_singleton]; unfold ahead1; rw [if_neg (by omega)]; omega, hst⟩, H163.drop0.drop0⟩ (by dsimp only; omega)
    have hgi : ¬ (0 ≤ p.group ∧ p.group ≤ i) := fun h => hs128 h.1
    rw [if_neg hgi] at hst
    refine Of (Of (Of (Of (Pf ?_))))
    refine Qn (FW_cond_false rfl ?_)
    refine Sk (FW_region (Mv ?_))
    refine Vf ?_
    refine Ld H123 ?_
    refine FL_loadAll H123 (h := ?_)
    rw [if_neg (show ¬ (i : Int) = p.group from fun e => hgi ⟨by omega, by omega⟩)] at H123
    rw [if_neg (by omega)] at hal
    have hid : ((acc.length + 1 : Nat) : Int) = (i : Int) + 1 := by omega
    obtain ⟨F0, hp0', hS0, hput0⟩ := H123.focus At2
    refine FL_callV (vals := [str o.name, agg (typeCells (typeS cols o.steps).1)]) rfl (putCol_ok o.name _ hp0' (by omega)) rfl rfl (fun v' w174 hv => ?_)
    obtain ⟨rfl, hkk, F1, hq, hsub⟩ := hv
    have H174 := hput0 _ F1 _ hkk hq hsub
    rw [hid] at H174
    refine FL_nil (Qblk_normal (Qseq_normal (FW_region (Vv (Gives.addI rfl rfl rfl (by omega)) ?_))))
    refine Mv ?_
    refine FL_nil ?_
    exact Qround_normal (i + 1, acc ++ [colP ((i : Int) + 1) o.name (typeS cols o.steps).1]) ⟨rfl, rfl, rfl, rfl, rfl, rfl, rfl, rfl, trivial⟩ ⟨⟨by dsimp only; omega, by dsimp only; rw [List.length_append, List.length_singleton]; unfold ahead1; rw [if_neg (by omega)]; omega, hst⟩, H174.drop0.drop0⟩ (by dsimp only; omega)
  have hil : i = r.length := by omega
  rw [hil, hrl, List.drop_length, outsP] at hst
  rw [hil, hrl] at hal
  unfold ahead1 at hal
  refine FW_exit (Qseq_exit (Qround_exit (Qblk_exit (Qseq_normal (FW_seq (Sr (Vf ?_)))))))
  refine Ld H74 ?_
  refine Vf ?_
  refine Ld H74 ?_
  refine Vs ?_
  refine Ve ?_
  refine Qn (Cp rfl (fun hc185 => ?_) (fun hc185 => ?_))
  · rw [if_pos (by omega)] at hst
    rw [if_neg (by omega)] at hal
    refine FW_region (Mv ?_)
    refine FL_loadAll H74 (h := ?_)
    have hid : ((acc.length + 1 : Nat) : Int) = p.group + 1 := by omega
    obtain ⟨F0, hp0', hS0, hput0⟩ := H74.focus At0
    refine FL_callV (vals := [str countW, agg (typeCells wholeT)]) rfl (putCol_ok countW wholeT hp0' (by omega)) rfl rfl (fun v' w190 hv => ?_)
    obtain ⟨rfl, hkk, F1, hq, hsub⟩ := hv
    have H190 := hput0 _ F1 _ hkk hq hsub
    rw [hid] at H190
    refine Nx ?_
    have H192 := H190
    unfold colsH at H192
    obtain ⟨v8, H192⟩ := H192.ex0
    have H192 := H192.star0
    refine Ld H192 ?_
    refine Am ?_
    refine Am ?_
    refine Qn (FW_ret (Qfn_ret (hR := ?_)))
    exact ⟨v8, by rw [← hst]; rfl, trivial, by rw [← hst]; exact H192.front1.first.turn⟩
  rw [if_neg (by omega)] at hst
  refine Sk (Sr ?_)
  have H198 := H74
  unfold colsH at H198
  obtain ⟨v8, H198⟩ := H198.ex0
  have H198 := H198.star0
  refine Ld H198 ?_
  refine Am ?_
  refine Am ?_
  refine Qn (FW_ret (Qfn_ret (hR := ?_)))
  exact ⟨v8, by rw [← hst]; rfl, trivial, by rw [← hst]; exact H198.front1.first.turn⟩
end
section
variable {w : World}
theorem usesPE_ok {p : PlanM} {v : Value} (hp : PlanIn w v p) (hn : p.cols.length ≤ 100) (hw1 : p.wh.length ≤ 1000) (hc1 : ∀ o ∈ p.cols, o.steps.length ≤ 1000) :
    Rets Tryz.prog 30 [v] w fun v w' => ∃ x, v = x ∧ True ∧ Turn noB (rowD 3 1 intCells x (usesP p)) w w' := by
  obtain ⟨vw, vc, rfl, hw, r, hr, hraw⟩ := hp
  obtain ⟨A, m, rfl, ⟨hm, hm'⟩, hA⟩ := hr
  have hrl := hraw.len
  have H := Sep.start0 w
  rw [← usesP_sorted]
  refine rets1 Tryz.func30 rfl rfl rfl rfl ?_
  refine Sr (FL_box H (cs := [vw, .slice A r.length m, I p.group]) rfl (h := fun b1 w2 H2 k1 => ?_))
  refine Am ?_
  refine Nx (Vf ?_)
  refine Ld H2 ?_
  refine FL_callN H2 (usesE_ok (hw.keep H2.kept) hw1) (h := fun x0 w7 _ H7 k6 => ?_)
  refine Am ?_
  refine Qn (FW_seq (Sr (Vf ?_)))
  refine Ld H7 ?_
  refine Vs ?_
  refine Mv ?_
  refine Qn (FW_block ?_)
  have H14 : Mw.Sep w noB [rowD 3 1 intCells x0 (gatherP p.wh []), blk b1 [vw, .slice A r.length m, I p.group] 25] w7 := by
    unfold gatherP
    rw [List.flatMap_nil, List.append_nil]
    exact H7
  refine FW_loop' (fun x : Nat × Value => [(1, selfP b1), (3, x.2), (10, .slice A r.length m), (11, I r.length), (12, I x.1)]) (fun x w' => x.1 ≤ r.length ∧ Sep w noB [rowD 3 1 intCells x.2 (gatherP p.wh (p.cols.take x.1)), blk b1 [vw, .slice A r.length m, I p.group] 25] w') (fun x _ => r.length - x.1) (0, x0) ⟨rfl, rfl, rfl, rfl, rfl, trivial⟩ ⟨Nat.zero_le _, H14⟩ (fun x τ w14 hI => ?_)
  obtain ⟨i, v0⟩ := x
  obtain ⟨hi, H14⟩ := hI
  dsimp only at hi H14
  obtain ⟨B, cb, rfl, hcb, hB⟩ := Sep.formD H14 At0
  have hgl := gather_len (wh := p.wh) (m := 1000) (cols := p.cols.take i) fun o ho => hc1 o (List.mem_of_mem_take ho)
  rw [List.length_take, Nat.min_eq_left (by omega)] at hgl
  try simp only [upds, like, upd_ds, und_ds]
  refine Sr (Vl ?_)
  refine Qn (FW_seq (Cp rfl (fun hc16 => ?_) (fun hc16 => ?_)))
  · have hlt : i < p.cols.length := by omega
    obtain ⟨vx, hx, hsx⟩ := hraw.at hlt
    obtain ⟨Ax, cx, rfl, _⟩ := id hsx
    have hpc : p.cols[i]? = some p.cols[i] := List.getElem?_eq_getElem hlt
    obtain ⟨o, ho⟩ : ∃ o, o = p.cols[i] := ⟨_, rfl⟩
    rw [← ho] at hx hsx hpc
    have hol := hc1 o (List.mem_of_getElem? hpc)
    have hul := usesS_len o.steps
    have htk : gatherP p.wh (p.cols.take (i + 1)) = gatherP p.wh (p.cols.take i) ++ usesS o.steps := by rw [List.take_add_one, hpc]; exact gather_snoc _ _ _
    refine Sk (FW_seq (FW_block (Sr (Vv (Gives.idxR rfl rfl (by assumption) (by omega)) (Vv (Gives.loadE0 rfl H14 (by assumption) (by assumption)) ?_)))))
    refine FL_alloc H14 (h := fun b5 w21 H21 k20 => ?_)
    refine FL_storeAll H21 (h := fun w23 H23 => ?_)
    refine Qn (FW_region (Mv ?_))
    refine Vf ?_
    refine Ld H23 ?_
    refine FL_callN H23 (usesE_ok (hsx.keep H23.kept) hol) (h := fun x2 w28 _ H28 k27 => ?_)
    obtain ⟨B2, c2, rfl, hc2, hB2⟩ := Sep.formD H28 At0
    refine FL_appendO H28 At2 hB2 (by unfold maxLen; omega) (by omega) (cells_one (fun _ => rfl) _) (h := ?_)
    intro v2 w30 H30
    rw [← htk] at H30
    refine Am ?_
    refine FL_nil (Qblk_normal (Qseq_normal (FW_region (Vv (Gives.addI rfl rfl rfl (by omega)) ?_))))
    refine Mv ?_
    refine FL_nil ?_
    exact Qround_normal (i + 1, v2) ⟨rfl, rfl, rfl, rfl, rfl, trivial⟩ ⟨by dsimp only; omega, H30.drop0.drop0⟩ (by dsimp only; omega)
  have hil : i = r.length := by omega
  rw [hil, List.take_of_length_le (by omega)] at H14 hgl ⊢
  refine FW_exit (Qseq_exit (Qround_exit (Qblk_exit (Qseq_normal (Sr (Mv ?_))))))
  obtain ⟨F0, hp0, hS0, hput0⟩ := H14.focus At0
  refine FL_call (sort_ok hp0 (by omega)) rfl rfl (fun v' w38 hv => ?_)
  obtain ⟨rfl, hkk, F1, hq, hs⟩ := hv
  have H38 := hput0 _ F1 _ hkk hq hs
  have hml : ((gatherP p.wh p.cols).mergeSort fun x y => decide (x ≤ y)).length = (gatherP p.wh p.cols).length := List.length_mergeSort _
  rw [← hml] at H38
  refine Nx (Mv ?_)
  obtain ⟨F0, hp0, hS0, hput0⟩ := H38.focus At0
  refine FL_call (compact_ok hp0 (by omega)) (by rw [hml]; rfl) rfl (fun v' w41 hv => ?_)
  obtain ⟨rfl, hkk, F1, hq, hs⟩ := hv
  have H41 := hput0 _ F1 _ hkk hq hs
  refine Am ?_
  refine Qn (FW_ret (Qfn_ret (hR := ?_)))
  exact ⟨_, rfl, trivial, H41.first.turn⟩
theorem stepsSl_ok {a b : List StepM} {va vb : Value} (ha : RowIn w va stepCells 3 a) (hb : RowIn w vb stepCells 3 b) : Rets Tryz.prog 57 [va, vb] w fun v' w' => v' = .bool (decide (a = b)) ∧ Kept noB w w' := by
 obtain ⟨A, m, rfl, ⟨hm, hm'⟩, hA⟩ := ha
 obtain ⟨B, n, rfl, ⟨hn, hn'⟩, hB⟩ := hb
 have H := Sep.start0 w
 refine rets2 Tryz.func57 rfl rfl rfl rfl ?_
 refine Sr (Am ?_)
 refine Qn (FW_seq (Sr (Mv ?_)))
 refine Vs ?_
 refine Mv ?_
 refine Vs ?_
 refine Vn ?_
 refine Qn (Cp rfl (fun hc7 => ?_) (fun hc7 => ?_))
 ·have hne := hc7
  refine Sr (Am ?_)
  refine Qn (Rs (Qfn_ret (hR := ?_)))
  exact ⟨congrArg Value.bool (Eq.symm (decide_eq_false fun e => hne (by rw [e]))), H.kept⟩
 have hlen : a.length = b.length := by omega
 refine Sk (FW_seq (Sr (Mv ?_)))
 refine Vs ?_
 refine Mv ?_
 refine Qn (FW_block (FW_loop' (fun i : Nat => [(0, .slice A a.length m), (1, .slice B b.length n), (12, I a.length), (13, I i)]) (fun i w' => (i ≤ a.length ∧ a.take i = b.take i) ∧ Sep w noB [] w') (fun i _ => a.length - i) 0 ⟨rfl, rfl, rfl, rfl, trivial⟩ ⟨⟨Nat.zero_le _, by simp⟩, H⟩ (fun i τ w16 hI => ?_)))
 obtain ⟨⟨hi, hst⟩, H16⟩ := hI
 try simp only [upds, like, upd_ds, und_ds]
 refine Sr (Vl ?_)
 refine Qn (FW_seq (Cp rfl (fun hc18 => ?_) (fun hc18 => ?_)))
 ·have hlt : i < a.length := by omega
  obtain ⟨x, hx⟩ := get_some hlt
  obtain ⟨y, hy⟩ := get_some (l := b) (i := i) (by omega)
  refine Sk (FW_seq (FW_block (Sr (Mv ?_))))
  refine Am ?_
  refine Qn (FW_seq (FW_drawS rfl H16 (h := fun hok22 w24 H24 => ?_)))
  refine Gm hok22 0 ?_
  refine Gm hok22 1 ?_
  refine Gp hok22 2 rfl rfl (fun _ => (Gives.idxR rfl rfl (by assumption) (by omega))) (Gl hok22 3 rfl rfl (Gives.loadE0 rfl H24 (by assumption) (by assumption)) ?_)
  refine Gm hok22 4 ?_
  refine Gm hok22 5 ?_
  refine Gp hok22 6 rfl rfl (fun _ => (Gives.idxR rfl rfl (by assumption) (by omega))) (Gl hok22 7 rfl rfl (Gives.loadE0 rfl H24 (by assumption) (by assumption)) ?_)
  refine Gp hok22 8 rfl rfl (fun _ => (Gives.neqG (enc := stepCells) _ _ rfl rfl)) (FG_end hok22 (by kernel_rfl) ?_)
  refine Qseq_normal (Cp rfl (fun hc30 => ?_) (fun hc30 => ?_))
  ·have hxy := hc30
   refine Sr (Am ?_)
   refine Qn (Rb (Qround_ret (Qblk_ret (Qseq_ret (Qfn_ret (hR := ?_))))))
   exact ⟨congrArg Value.bool (Eq.symm (decide_eq_false fun e => hxy (by rw [e, hy] at hx; injection hx with hx; exact hx.symm))), H24.kept⟩
  have hxy : x = y := Classical.not_not.1 hc30
  have hnx : a.take (i + 1) = b.take (i + 1) := by rw [List.take_add_one, List.take_add_one, hst, hx, hy, hxy]
  refine FW_skip (Qblk_normal (Qseq_normal (FW_region (Vv (Gives.addI rfl rfl rfl (by omega)) ?_))))
  refine Mv ?_
  refine FL_nil ?_
  exact Qround_normal (i + 1) ⟨rfl, rfl, rfl, rfl, trivial⟩ ⟨⟨by omega, hnx⟩, H24⟩ (by omega)
 have hil : i = a.length := by omega
 have hab : a = b := by rw [hil, List.take_length, hlen, List.take_length] at hst; exact hst
 refine FW_exit (Qseq_exit (Qround_exit (Qblk_exit (Qseq_normal (Sr (Am ?_))))))
 refine Qn (FW_ret (Qfn_ret (hR := ?_)))
 exact ⟨congrArg Value.bool (Eq.symm (decide_eq_true hab)), H16.kept⟩
theorem alike_ok {x y : List UInt8 × Value} {a b : OutM} (ha : RowIn w x.2 stepCells 3 a.steps) (hb : RowIn w y.2 stepCells 3 b.steps) (hx : x.1 = a.name) (hy : y.1 = b.name) : Rets Tryz.prog 56 [agg (outCells x), agg (outCells y)] w fun v' w' => v' = .bool (decide (a = b)) ∧ Kept noB w w' := by
 have H := Sep.start0 w
 refine rets2 Tryz.func56 rfl rfl rfl rfl ?_
 refine Sr (FL_box H (cs := outCells x) rfl (h := fun b2 w2 H2 k1 => ?_))
 refine FL_box H2 (cs := outCells y) rfl (h := fun b3 w4 H4 k3 => ?_)
 refine Am ?_
 refine Nx (Vf ?_)
 refine Ld H4 ?_
 refine Vf ?_
 refine Ld H4 ?_
 refine Vv (Gives.eqlT rfl rfl) (Mv ?_)
 refine FL_splitP (t := 10) rfl (fun hs12 => ?_) (fun hs12 => ?_)
 ·have hxy : a.name = b.name := by rw [← hx, ← hy]; exact hs12
  refine On (Vf ?_)
  refine On (Ld H4 ?_)
  refine On (Vf ?_)
  refine On (Ld H4 ?_)
  refine On (FL_callQ H4 (stepsSl_ok (ha.keep H4.kept) (hb.keep H4.kept)) (h := fun w19 H19 k18 => ?_))
  refine Pt ?_
  refine Am ?_
  refine Qn (FW_ret (Qfn_ret (hR := ?_)))
  exact ⟨by first | exact congrArg Value.bool (Eq.symm (decide_eq_false fun e => hxy (by rw [e]))) | exact congrArg Value.bool (decide_eq_decide.2 ⟨fun e => OutM.ext' hxy e, fun e => by rw [e]⟩), H19.kept⟩
 have hxy : ¬ a.name = b.name := by rw [← hx, ← hy]; exact hs12
 refine Of (Of (Of (Of (Of (Pf ?_)))))
 refine Am ?_
 refine Qn (FW_ret (Qfn_ret (hR := ?_)))
 exact ⟨by first | exact congrArg Value.bool (Eq.symm (decide_eq_false fun e => hxy (by rw [e]))) | exact congrArg Value.bool (decide_eq_decide.2 ⟨fun e => OutM.ext' hxy e, fun e => by rw [e]⟩), H4.kept⟩
theorem outsSame_ok {la lb : List OutM} {va vb : Value} (ha : OutsIn w va la) (hb : OutsIn w vb lb) : Rets Tryz.prog 58 [va, vb, .func (.func 56) #[] #[]] w fun v' w' => v' = .bool (decide (la = lb)) ∧ Kept noB w w' := by
 obtain ⟨r, ⟨A, m, rfl, ⟨hm, hm'⟩, hA⟩, hra⟩ := ha
 obtain ⟨s, ⟨B, n, rfl, ⟨hn, hn'⟩, hB⟩, hrb⟩ := hb
 have hal := hra.len
 have hbl := hrb.len
 have H := Sep.start0 w
 refine rets3 Tryz.func58 rfl rfl rfl rfl ?_
 refine Sr (Am ?_)
 refine Qn (FW_seq (Sr (Mv ?_)))
 refine Vs ?_
 refine Mv ?_
 refine Vs ?_
 refine Vn ?_
 refine Qn (Cp rfl (fun hc7 => ?_) (fun hc7 => ?_))
 ·have hne : ¬ la = lb := fun e => hc7 (by rw [hal, hbl, e])
  refine Sr (Am ?_)
  refine Qn (Rs (Qfn_ret (hR := ?_)))
  exact ⟨congrArg Value.bool (Eq.symm (decide_eq_false hne)), H.kept⟩
 have hlen : la.length = lb.length := by omega
 refine Sk (FW_seq (Sr (Mv ?_)))
 refine Vs ?_
 refine Mv ?_
 refine Qn (FW_block (FW_loop' (fun i : Nat => [(0, .slice A r.length m), (1, .slice B s.length n), (2, .func (.func 56) #[] #[]), (15, .slice A r.length m), (16, I r.length), (17, I i)]) (fun i w' => (i ≤ la.length ∧ la.take i = lb.take i) ∧ Sep w noB [] w') (fun i _ => la.length - i) 0 ⟨rfl, rfl, rfl, rfl, rfl, rfl, trivial⟩ ⟨⟨Nat.zero_le _, by simp⟩, H⟩ (fun i τ w16 hI => ?_)))
 obtain ⟨⟨hi, hst⟩, H16⟩ := hI
 try simp only [upds, like, upd_ds, und_ds]
 refine Sr (Vl ?_)
 refine Qn (FW_seq (Cp rfl (fun hc18 => ?_) (fun hc18 => ?_)))
 ·have hlt : i < la.length := by omega
  obtain ⟨vx, hx, hsx⟩ := hra.at hlt
  obtain ⟨Ax, cx, rfl, _⟩ := id hsx
  obtain ⟨vy, hy, hsy⟩ := hrb.at (show i < lb.length by omega)
  obtain ⟨Ay, cy, rfl, _⟩ := id hsy
  have hpa : la[i]? = some la[i] := List.getElem?_eq_getElem hlt
  have hpb : lb[i]? = some lb[i] := List.getElem?_eq_getElem (by omega)
  obtain ⟨a, hae⟩ : ∃ a, a = la[i] := ⟨_, rfl⟩
  obtain ⟨b, hbe⟩ : ∃ b, b = lb[i]'(by omega) := ⟨_, rfl⟩
  rw [← hae] at hx hsx hpa
  rw [← hbe] at hy hsy hpb
  refine Sk (FW_seq (FW_block (Sr (Mv ?_))))
  refine Vv (Gives.idxR rfl rfl (by assumption) (by omega)) (Vv (Gives.loadE0 rfl H16 (by assumption) (by assumption)) ?_)
  refine FL_alloc H16 (h := fun b8 w24 H24 k23 => ?_)
  refine Am ?_
  refine FL_storeAll H24 (h := fun w27 H27 => ?_)
  refine Nx (Mv ?_)
  refine Mv ?_
  refine Vv (Gives.idxR rfl rfl (by assumption) (by omega)) (Vv (Gives.loadE0 rfl H27 (by assumption) (by assumption)) ?_)
  refine FL_alloc H27 (h := fun b9 w33 H33 k32 => ?_)
  refine FL_storeAll H33 (h := fun w35 H35 => ?_)
  refine Nx (Mv ?_)
  refine FL_loadAll H35 (h := ?_)
  refine FL_loadAll H35 (h := ?_)
  refine FL_callV (fs := []) (cs := []) (vals := [agg (outCells (a.name, .slice Ax a.steps.length cx)), agg (outCells (b.name, .slice Ay b.steps.length cy))]) rfl (alike_ok (hsx.keep H35.kept) (hsy.keep H35.kept) rfl rfl) rfl rfl (fun v' w40 hv => ?_)
  obtain ⟨rfl, hkk⟩ := hv
  have H40 := H35.keep hkk
  refine Vv (Gives.not rfl) (Qn ?_)
  refine Cd rfl (fun hc42 => ?_) (fun hc42 => ?_)
  ·have hxy : ¬ a = b := by simpa using hc42
   refine Sr (Am ?_)
   refine Qn (Rb (Qround_ret (Qblk_ret (Qseq_ret (Qfn_ret (hR := ?_))))))
   exact ⟨congrArg Value.bool (Eq.symm (decide_eq_false fun e => hxy (by rw [e, hpb] at hpa; injection hpa with hpa; exact hpa.symm))), H40.kept⟩
  have hxy : a = b := by simpa using hc42
  have hnx : la.take (i + 1) = lb.take (i + 1) := by rw [List.take_add_one, List.take_add_one, hst, hpa, hpb, hxy]
  refine FW_skip (Qblk_normal (Qseq_normal (FW_region (Vv (Gives.addI rfl rfl rfl (by omega)) ?_))))
  refine Mv ?_
  refine FL_nil ?_
  exact Qround_normal (i + 1) ⟨rfl, rfl, rfl, rfl, rfl, rfl, trivial⟩ ⟨⟨by omega, hnx⟩, (H40.drop0.drop0)⟩ (by omega)
 have hil : i = la.length := by omega
 have hab : la = lb := by rw [hil, List.take_length, hlen, List.take_length] at hst; exact hst
 refine FW_exit (Qseq_exit (Qround_exit (Qblk_exit (Qseq_normal (Sr (Am ?_))))))
 refine Qn (FW_ret (Qfn_ret (hR := ?_)))
 exact ⟨congrArg Value.bool (Eq.symm (decide_eq_true hab)), H16.kept⟩
theorem sameE_ok {p q : PlanM} {va vb : Value} (ha : PlanIn w va p) (hb : PlanIn w vb q) : Rets Tryz.prog 20 [va, vb] w fun v' w' => v' = .bool (decide (p = q)) ∧ Kept noB w w' := by
 obtain ⟨vw, vc, rfl, hw, hc⟩ := ha
 obtain ⟨uw, uc, rfl, gw, gc⟩ := hb
 have H := Sep.start0 w
 have e1 : vw.cells = #[vw] := by obtain ⟨A, c, rfl, _⟩ := hw; rfl
 refine rets2 Tryz.func20 rfl rfl rfl rfl ?_
 refine Sr (FL_box H (cs := [vw, vc, I p.group]) rfl (h := fun b2 w2 H2 k1 => ?_))
 refine FL_box H2 (cs := [uw, uc, I q.group]) rfl (h := fun b3 w4 H4 k3 => ?_)
 refine Am ?_
 refine Nx (Am ?_)
 refine Nx (Vf ?_)
 refine Ld H4 ?_
 refine Vf ?_
 refine Ld H4 ?_
 refine Ve ?_
 refine Mv ?_
 refine FL_splitP (t := 11) rfl (fun hs13 => ?_) (fun hs13 => ?_)
 ·have hg : p.group = q.group := hs13
  refine On (Vf ?_)
  refine On (Ld H4 ?_)
  refine On (Vf ?_)
  refine On (Ld H4 ?_)
  refine On (FL_callQ H4 (stepsSl_ok (hw.keep H4.kept) (gw.keep H4.kept)) (h := fun w20 H20 k19 => ?_))
  refine Pt ?_
  refine Mv ?_
  refine FL_splitP (t := 18) rfl (fun hs23 => ?_) (fun hs23 => ?_)
  ·have hwh : p.wh = q.wh := by simpa using hs23
   refine On (Vf ?_)
   refine On (Ld H20 ?_)
   refine On (Vf ?_)
   refine On (Ld H20 ?_)
   refine On (Mv ?_)
   refine On (FL_callQ H20 (outsSame_ok (hc.keep H20.kept) (gc.keep H20.kept)) (h := fun w31 H31 k30 => ?_))
   refine Pt ?_
   refine Am ?_
   refine Qn (FW_ret (Qfn_ret (hR := ?_)))
   exact ⟨by first | exact congrArg Value.bool (Eq.symm (decide_eq_false hne)) | exact congrArg Value.bool (decide_eq_decide.2 ⟨fun e => PlanM.ext' hwh e hg, fun e => by rw [e]⟩), H31.kept⟩
  have hne : ¬ p = q := fun e => hs23 (by rw [e])
  refine Of (Of (Of (Of (Of (Of (Pf ?_))))))
  refine Am ?_
  refine Qn (FW_ret (Qfn_ret (hR := ?_)))
  exact ⟨by first | exact congrArg Value.bool (Eq.symm (decide_eq_false hne)) | exact congrArg Value.bool (decide_eq_decide.2 ⟨fun e => PlanM.ext' hwh e hg, fun e => by rw [e]⟩), H20.kept⟩
 have hne : ¬ p = q := fun e => hs13 (by rw [e])
 refine Of (Of (Of (Of (Of (Pf ?_)))))
 refine Mv ?_
 refine Of (Of (Of (Of (Of (Of (Pf ?_))))))
 refine Am ?_
 refine Qn (FW_ret (Qfn_ret (hR := ?_)))
 exact ⟨by first | exact congrArg Value.bool (Eq.symm (decide_eq_false hne)) | exact congrArg Value.bool (decide_eq_decide.2 ⟨fun e => PlanM.ext' hwh e hg, fun e => by rw [e]⟩), H4.kept⟩
end
end Go.Proofs.YtolaedhdjcnijaaGreatDoor
