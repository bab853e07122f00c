/-
 A plan's text read line by line, told plainly. No program stands here.
-/
import Derived.Test.YtolaedhdjcnijaaGreatDoorKx25
set_option linter.unusedVariables false
set_option linter.unusedSimpArgs false
namespace Go.Proofs.YtolaedhdjcnijaaGreatDoor
open Go Go.Mw Go.Lib
set_option maxRecDepth 4000
def cutSp (s : List UInt8) : List UInt8 × List UInt8 := (cutL s).getD (s, [])
theorem cutSp_none {s : List UInt8} (h : cutL s = none) : cutSp s = (s, []) := by unfold cutSp; rw [h]; rfl
theorem cutSp_some {s a b : List UInt8} (h : cutL s = some (a, b)) : cutSp s = (a, b) := by unfold cutSp; rw [h]; rfl
def whereN : List UInt8 := [119, 104, 101, 114, 101]
def outN : List UInt8 := [111, 117, 116]
def groupB : List UInt8 := [103, 114, 111, 117, 112]
def stepsO (t : List UInt8) : Option (List StepM) := if (parseS t).2 = 0 ∧ (parseS t).1 ≠ [] then some (parseS t).1 else none
def outC (s : List UInt8) : Option OutM := if (cutSp s).1 = outN ∧ isNameS (cutSp (cutSp s).2).1 = true then (stepsO (cutSp (cutSp s).2).2).map fun l => ⟨(cutSp (cutSp s).2).1, l⟩ else none
def groupC (t : List UInt8) : Option Int := if t = noneW then some (-1) else (groupN t).map fun n : Nat => ((n : Nat) : Int)
def lineT (p : PlanM) (st : Int) (s : List UInt8) : Option (PlanM × Int) :=
 if st = 0 then (if (cutSp s).1 = whereN then (if (cutSp s).2 = noneW then some (p, 1) else (stepsO (cutSp s).2).map fun l => (⟨l, p.cols, p.group⟩, 1)) else none)
 else if st = 2 ∧ (cutSp s).1 = groupB then (groupC (cutSp s).2).map fun g => (⟨p.wh, p.cols, g⟩, 3)
 else if st = 1 ∨ st = 2 then (outC s).map fun o => (⟨p.wh, p.cols ++ [o], p.group⟩, 2)
 else none
def goG (p : PlanM) (st : Int) : List (List UInt8) → Option (PlanM × Int) × Nat
 | [] => (some (p, st), 0)
 | x :: l => match lineT p st x with
  | none => (none, 0)
  | some (p', st') => ((goG p' st' l).1, (goG p' st' l).2 + 1)
def runG (l : List (List UInt8)) : Option (PlanM × Int) := l.foldl (fun o x => o.bind fun r => lineT r.1 r.2 x) (some (plan0, 0))
theorem run_snoc (l : List (List UInt8)) (x : List UInt8) : runG (l ++ [x]) = (runG l).bind fun r => lineT r.1 r.2 x := by
 unfold runG; rw [List.foldl_append]; rfl
theorem go_append : ∀ (l m : List (List UInt8)) (p : PlanM) (st : Int) (q : PlanM) (t : Int), goG p st l = (some (q, t), l.length) → goG p st (l ++ m) = ((goG q t m).1, (goG q t m).2 + l.length)
 | [], m, p, st, q, t, h => by
  unfold goG at h
  injection h with h _
  injection h with h
  injection h with h1 h2
  subst h1; subst h2; rfl
 | x :: l, m, p, st, q, t, h => by
  rw [List.cons_append]
  rw [goG] at h ⊢
  cases hl : lineT p st x with
  | none => rw [hl] at h; injection h with h; cases h
  | some r =>
   obtain ⟨p', st'⟩ := r
   rw [hl] at h
   dsimp only at h ⊢
   injection h with h1 h2
   rw [List.length_cons] at h2
   rw [go_append l m p' st' q t (Prod.ext h1 (by dsimp only; omega)), List.length_cons]
   exact Prod.ext rfl (by dsimp only; omega)
theorem snoc_of {α : Type} {l : List α} (h : l ≠ []) : ∃ m x, l = m ++ [x] := ⟨l.dropLast, l.getLast h, (List.dropLast_concat_getLast h).symm⟩
theorem run_go : ∀ (l : List (List UInt8)) {q : PlanM} {t : Int}, runG l = some (q, t) → goG plan0 0 l = (some (q, t), l.length) := by
 intro l
 have key : ∀ n (l : List (List UInt8)), l.length = n → ∀ {q : PlanM} {t : Int}, runG l = some (q, t) → goG plan0 0 l = (some (q, t), l.length) := by
  intro n
  induction n with
  | zero =>
   intro l hl q t h
   have := List.eq_nil_of_length_eq_zero hl
   subst this
   injection h with h
   injection h with h1 h2
   subst h1; subst h2; rfl
  | succ n ih =>
   intro l hl q t h
   obtain ⟨m, x, rfl⟩ : ∃ m x, l = m ++ [x] := snoc_of (by intro e; rw [e] at hl; cases hl)
   rw [run_snoc] at h
   obtain ⟨⟨p', t'⟩, h1, h2⟩ := Option.bind_eq_some_iff.1 h
   rw [go_append m [x] plan0 0 p' t' (ih m (by rw [List.length_append, List.length_singleton] at hl; omega) h1)]
   dsimp only at h2
   unfold goG
   rw [h2]
   dsimp only
   unfold goG
   rw [List.length_append, List.length_singleton]
   exact Prod.ext rfl (by dsimp only; omega)
 exact fun {q t} h => key l.length l rfl h
/-! The words of a line. -/
theorem cut_eq {s a b : List UInt8} (h : cutL s = some (a, b)) : s = a ++ [32] ++ b := by
 unfold cutL at h
 obtain ⟨i, hi, h⟩ := Option.map_eq_some_iff.1 h
 injection h with h1 h2
 subst h1; subst h2
 rw [List.idxOf?, List.findIdx?_eq_some_iff_getElem] at hi
 obtain ⟨hlt, h32, _⟩ := hi
 have e : s[i] = 32 := by simpa using h32
 conv => lhs; rw [← List.take_append_drop i s, List.drop_eq_getElem_cons hlt, e]
 simp
theorem cut_none {s : List UInt8} (h : cutL s = none) : ∀ c ∈ s, c ≠ 32 := by
 unfold cutL at h
 rw [Option.map_eq_none_iff, List.idxOf?, List.findIdx?_eq_none_iff] at h
 intro c hc e
 have := h c hc
 rw [e] at this
 simp at this
theorem ahead_cut {w s : List UInt8} (hw : ∀ c ∈ w, c ≠ 32) : aheadL (w ++ [32]) s = (cutL s).bind fun x => if x.1 = w then some x.2 else none := by
 cases hc : cutL s with
 | none =>
  cases ha : aheadL (w ++ [32]) s with
  | none => rfl
  | some t =>
   have := ahead_eq ha
   exact absurd rfl (cut_none hc 32 (by rw [this]; simp))
 | some x =>
  obtain ⟨a, b⟩ := x
  show _ = if a = w then some b else none
  by_cases e : a = w
  ·rw [if_pos e, cut_eq hc, e, ahead_self]
  rw [if_neg e]
  cases ha : aheadL (w ++ [32]) s with
  | none => rfl
  | some t =>
   have h1 := ahead_eq ha
   rw [h1, idx_name hw] at hc
   injection hc with hc
   injection hc with hc _
   exact absurd hc.symm e
theorem parse_nil : parseS [] = ([], 0) := by rw [← parseF_eq]; decide +kernel
theorem steps_nil : stepsO [] = none := by unfold stepsO; rw [parse_nil]; simp
theorem noneW_ne : ([] : List UInt8) ≠ noneW := by unfold noneW; simp
theorem line_where {p : PlanM} {s : List UInt8} (h : p.wh = []) : lineT p 0 s = (whereL s).map fun l => (⟨l, p.cols, p.group⟩, 1) := by
 have e : whereW = whereN ++ [32] := rfl
 unfold lineT whereL
 rw [if_pos rfl, e, ahead_cut (by decide)]
 cases hc : cutL s with
 | none =>
  rw [cutSp_none hc]
  show (if s = whereN then (if ([] : List UInt8) = noneW then _ else _) else none) = _
  rw [if_neg noneW_ne, steps_nil]
  split <;> rfl
 | some x =>
  obtain ⟨a, b⟩ := x
  rw [cutSp_some hc]
  dsimp only
  show (if a = whereN then (if b = noneW then _ else _) else none) = Option.map _ (((if a = whereN then some b else none)).bind _)
  by_cases e1 : a = whereN
  ·rw [if_pos e1, if_pos e1]
   show _ = Option.map _ (if b = [] then none else if b = noneW then some [] else if (parseS b).2 = 0 then some (parseS b).1 else none)
   by_cases e2 : b = []
   ·rw [if_pos e2, e2, if_neg noneW_ne, steps_nil, Option.map_none]
   rw [if_neg e2]
   by_cases e3 : b = noneW
   ·rw [if_pos e3, if_pos e3]
    show some (p, (1 : Int)) = some (⟨[], p.cols, p.group⟩, 1)
    rw [← h]
   rw [if_neg e3, if_neg e3]
   unfold stepsO
   by_cases e4 : (parseS b).2 = 0
   ·rw [if_pos e4, if_pos ⟨e4, parse_some e4 e2⟩]
   rw [if_neg e4, if_neg fun h => e4 h.1, Option.map_none]
  rw [if_neg e1, if_neg e1]; rfl
theorem out_cut (s : List UInt8) : outC s = outL s := by
 have e : outW = outN ++ [32] := rfl
 unfold outC outL
 rw [e, ahead_cut (by decide)]
 cases hc : cutL s with
 | none =>
  rw [cutSp_none hc]
  dsimp only
  rw [cutSp_none (s := []) rfl]
  dsimp only
  rw [steps_nil]
  show (if s = outN ∧ isNameS [] = true then none else none) = none
  split <;> rfl
 | some x =>
  obtain ⟨a, b⟩ := x
  rw [cutSp_some hc]
  dsimp only
  show _ = ((if a = outN then some b else none)).bind _
  by_cases e1 : a = outN
  ·rw [if_pos e1]
   show _ = (cutL b).bind _
   cases hb : cutL b with
   | none =>
    rw [cutSp_none hb]
    dsimp only
    rw [steps_nil]
    show (if a = outN ∧ isNameS b = true then none else none) = none
    split <;> rfl
   | some y =>
    obtain ⟨n, t⟩ := y
    rw [cutSp_some hb]
    show (if a = outN ∧ isNameS n = true then Option.map _ (stepsO t) else none) = if (parseS t).2 = 0 ∧ (parseS t).1 ≠ [] ∧ isNameS n = true then some (⟨n, (parseS t).1⟩ : OutM) else none
    unfold stepsO
    by_cases e2 : isNameS n = true
    ·rw [if_pos ⟨e1, e2⟩]
     by_cases e3 : (parseS t).2 = 0 ∧ (parseS t).1 ≠ []
     ·rw [if_pos e3, if_pos ⟨e3.1, e3.2, e2⟩]; rfl
     rw [if_neg e3, if_neg fun h => e3 ⟨h.1, h.2.1⟩]; rfl
    rw [if_neg fun h => e2 h.2, if_neg fun h => e2 h.2.2]
  rw [if_neg fun h => e1 h.1, if_neg e1]; rfl
theorem group_nil : groupC [] = none := by
 unfold groupC groupN
 rw [if_neg noneW_ne]
 have : decDigits 0 ≠ ([] : List UInt8) := decDigits_ne 0
 show Option.map _ (if decDigits 0 = [] ∧ _ then _ else none) = none
 rw [if_neg fun h => this h.1]; rfl
theorem group_cut (s : List UInt8) : (if (cutSp s).1 = groupB then groupC (cutSp s).2 else none) = groupL s := by
 have e : groupW = groupB ++ [32] := rfl
 unfold groupL
 rw [e, ahead_cut (by decide)]
 cases hc : cutL s with
 | none =>
  rw [cutSp_none hc]
  dsimp only
  rw [group_nil]
  show (if s = groupB then none else none) = none
  split <;> rfl
 | some x =>
  obtain ⟨a, b⟩ := x
  rw [cutSp_some hc]
  show (if a = groupB then groupC b else none) = ((if a = groupB then some b else none)).bind _
  by_cases e1 : a = groupB
  ·rw [if_pos e1, if_pos e1]; rfl
  rw [if_neg e1, if_neg e1]; rfl
theorem line_out {p : PlanM} {st : Int} {s : List UInt8} {o : OutM} (hst : st = 1 ∨ st = 2) (h : outL s = some o) : lineT p st s = some (⟨p.wh, p.cols ++ [o], p.group⟩, 2) := by
 have h' := h
 rw [← out_cut] at h
 have hw : (cutSp s).1 = outN := by
  unfold outC at h
  split at h
  ·rename_i e; exact e.1
  cases h
 unfold lineT
 rw [if_neg (by omega), if_neg (fun h1 => absurd (hw.symm.trans h1.2) (by decide)), if_pos hst, h]; rfl
theorem line_first {p : PlanM} {s : List UInt8} (h : outL s = none) : lineT p 1 s = none := by
 unfold lineT
 rw [if_neg (by decide), if_neg (fun h => absurd h.1 (by decide)), if_pos (.inl rfl), out_cut, h]; rfl
theorem line_last {p : PlanM} {s : List UInt8} (h : outL s = none) : lineT p 2 s = (groupL s).map fun g => (⟨p.wh, p.cols, g⟩, 3) := by
 unfold lineT
 rw [if_neg (by decide), ← group_cut]
 by_cases e : (cutSp s).1 = groupB
 ·rw [if_pos ⟨rfl, e⟩, if_pos e]
 rw [if_neg fun h => e h.2, if_pos (.inr rfl), out_cut, h, if_neg e]; rfl
theorem line_over {p : PlanM} {s : List UInt8} : lineT p 3 s = none := by
 unfold lineT
 rw [if_neg (by decide), if_neg (fun h => absurd h.1 (by decide)), if_neg (by decide)]
theorem go_outs : ∀ (l : List (List UInt8)) (p : PlanM) (st : Int), st = 1 ∨ st = 2 → goG p st l =
    if l.length ≤ (colsL l).length then (some (⟨p.wh, p.cols ++ colsL l, p.group⟩, if (colsL l).length = 0 then st else 2), (colsL l).length)
    else if st = 1 ∧ (colsL l).length = 0 then (none, 0)
    else match groupL (l.getD (colsL l).length []) with
      | none => (none, (colsL l).length)
      | some g => if l.length = (colsL l).length + 1 then (some (⟨p.wh, p.cols ++ colsL l, g⟩, 3), (colsL l).length + 1) else (none, (colsL l).length + 1)
  | [], p, st, _ => by
    unfold goG colsL
    simp
  | x :: l, p, st, hst => by
    cases ho : outL x with
    | some o =>
      have hc : colsL (x :: l) = o :: colsL l := by rw [colsL, ho]
      rw [goG, line_out hst ho, hc]
      dsimp only
      rw [go_outs l _ 2 (.inr rfl)]
      simp only [List.length_cons, Nat.add_le_add_iff_right, List.getD_cons_succ, Nat.add_right_cancel_iff]
      rw [if_neg (show ¬ ((colsL l).length + 1 = 0) by omega), if_neg (show ¬ (st = 1 ∧ (colsL l).length + 1 = 0) by omega), if_neg (show ¬ ((2 : Int) = 1 ∧ (colsL l).length = 0) by omega)]
      split
      · simp
      cases groupL (l.getD (colsL l).length []) with
      | none => rfl
      | some g => dsimp only; split <;> simp
    | none =>
      have hc : colsL (x :: l) = [] := by rw [colsL, ho]
      rw [goG, hc]
      simp only [List.length_cons, List.length_nil, List.getD_cons_zero]
      rw [if_neg (by omega)]
      rcases hst with rfl | rfl
      · rw [line_first ho, if_pos (by simp)]
      rw [line_last ho, if_neg (by decide)]
      cases groupL x with
      | none => rfl
      | some g =>
        show ((goG _ 3 l).1, (goG _ 3 l).2 + 1) = if l.length + 1 = 0 + 1 then _ else _
        cases l with
        | nil => simp [goG]
        | cons y l => rw [goG, line_over, if_neg (by simp)]
theorem parse_go {s : List UInt8} (hs : s.length ≤ 1048576) : parseP s = match goG plan0 0 (if (linesL s).2 = true then (linesL s).1 else (linesL s).1.dropLast) with
    | (none, n) => (plan0, (n : Int), 4)
    | (some r, n) => if (linesL s).2 = false ∨ r.2 ≠ 3 then (plan0, (n : Int), 4) else if mayP r.1 = false then (plan0, 0, 2) else (r.1, 0, 0) := by
  obtain ⟨ls, whole, hl⟩ : ∃ ls whole, linesL s = (ls, whole) := ⟨_, _, rfl⟩
  have hdl : ls.dropLast = ls.take (ls.length - 1) := List.dropLast_eq_take
  unfold parseP
  rw [if_neg (by omega), hl]
  dsimp only
  obtain ⟨many, hm⟩ : ∃ many, many = if whole = true then ls.length else ls.length - 1 := ⟨_, rfl⟩
  have hmle : many ≤ ls.length := by rw [hm]; split <;> omega
  have htk : (if whole = true then ls else ls.dropLast) = ls.take many := by
    rw [hm]
    split
    · rw [List.take_length]
    exact hdl
  rw [← hm, htk]
  by_cases h0 : many < 1
  · rw [if_pos h0, show many = 0 by omega, List.take_zero]
    unfold goG
    dsimp only
    rw [if_pos (.inr (by decide))]
    rfl
  rw [if_neg h0]
  cases ls with
  | nil => simp at hmle; omega
  | cons x l =>
    obtain ⟨m, rfl⟩ : ∃ m, many = m + 1 := ⟨many - 1, by omega⟩
    rw [List.take_succ_cons, List.getD_cons_zero, goG, line_where rfl, List.drop_one, List.tail_cons]
    cases hw : whereL x with
    | none => rfl
    | some wv =>
      dsimp only [Option.map]
      rw [go_outs _ _ 1 (.inl rfl)]
      have hml : (l.take m).length = m := by rw [List.length_take]; rw [List.length_cons] at hmle; omega
      obtain ⟨cs, hcs⟩ : ∃ cs, cs = colsL (l.take m) := ⟨_, rfl⟩
      rw [← hcs, hml]
      by_cases h1 : m ≤ cs.length
      · rw [if_pos h1, if_pos (.inl (by omega))]
        dsimp only
        rw [if_pos (.inr (by split <;> decide)), Nat.add_comm]
      rw [if_neg h1]
      by_cases h2 : cs.length = 0
      · rw [if_pos (.inr h2), if_pos ⟨rfl, h2⟩, h2]
      rw [if_neg (by omega), if_neg (fun h => h2 h.2)]
      have hgd : (x :: l).getD (1 + cs.length) [] = (l.take m).getD cs.length [] := by
        rw [Nat.add_comm, List.getD_cons_succ, List.getD_eq_getElem?_getD, List.getD_eq_getElem?_getD, List.getElem?_take, if_pos (by omega)]
      rw [hgd]
      cases groupL ((l.take m).getD cs.length []) with
      | none => dsimp only; rw [Nat.add_comm]
      | some g =>
        dsimp only
        by_cases h3 : m = cs.length + 1
        · rw [if_pos h3]
          dsimp only
          show (if 1 + cs.length + 1 < l.length + 1 then _ else _) = if whole = false ∨ ¬ ((3 : Int) = 3) then _ else _
          cases whole with
          | true =>
            rw [if_pos rfl, List.length_cons] at hm
            rw [if_neg (by omega), if_neg (show ¬ (true = false ∨ ¬ (3 : Int) = 3) by simp)]
            rfl
          | false =>
            rw [if_neg (by decide), List.length_cons] at hm
            rw [if_pos (by omega), if_pos (.inl rfl), Nat.add_comm 1]
        rw [if_neg h3]
        dsimp only
        rw [if_pos (by rw [List.length_cons]; rw [List.length_cons] at hmle; omega), Nat.add_comm 1]
theorem parse_done {s : List UInt8} {p : PlanM} {st : Int} (hs : s.length ≤ 1048576) (hw : (linesL s).2 = true) (h : runG (linesL s).1 = some (p, st)) :
    parseP s = if st ≠ 3 then (plan0, ((linesL s).1.length : Int), 4) else if mayP p = false then (plan0, 0, 2) else (p, 0, 0) := by
  rw [parse_go hs, if_pos hw, run_go _ h]
  dsimp only
  rw [hw]
  by_cases e : st = 3
  · rw [if_neg (show ¬ (true = false ∨ st ≠ 3) by simp [e]), if_neg (show ¬ st ≠ 3 from fun h => h e)]
  rw [if_pos (.inr e), if_pos e]
theorem parse_fail {s : List UInt8} {p : PlanM} {st : Int} {pre l : List (List UInt8)} {x : List UInt8} (hs : s.length ≤ 1048576) (hl : (if (linesL s).2 = true then (linesL s).1 else (linesL s).1.dropLast) = pre ++ x :: l) (h : runG pre = some (p, st)) (hx : lineT p st x = none) :
    parseP s = (plan0, (pre.length : Int), 4) := by
  rw [parse_go hs, hl, go_append pre _ _ _ _ _ (run_go _ h), goG, hx]
  dsimp only
  rw [Nat.zero_add]
theorem parse_part {s : List UInt8} {p : PlanM} {st : Int} (hs : s.length ≤ 1048576) (hw : (linesL s).2 = false) (h : runG (linesL s).1.dropLast = some (p, st)) :
    parseP s = (plan0, ((linesL s).1.dropLast.length : Int), 4) := by
  rw [parse_go hs, hw, if_neg (by decide), run_go _ h]
  dsimp only
  rw [if_pos (.inl rfl)]
theorem groupN_atoi {t : List UInt8} {n : Int} : (atoiAll t = .ok n ∧ 0 ≤ n ∧ itoa n = t ∧ n ≤ 1048576) ↔ (groupN t).map (fun n : Nat => ((n : Nat) : Int)) = some n := by
 constructor
 ·rintro ⟨_, h0, h1, h2⟩
  unfold itoa at h1
  rw [if_neg (by omega)] at h1
  unfold groupN
  rw [← h1, digitsD_dec]
  show Option.map _ (if decDigits n.toNat = decDigits n.toNat ∧ n.toNat ≤ 1048576 then some n.toNat else none) = _
  rw [if_pos ⟨rfl, by omega⟩]
  show some ((n.toNat : Nat) : Int) = some n
  rw [Int.toNat_of_nonneg h0]
 intro h
 obtain ⟨m, h1, rfl⟩ := Option.map_eq_some_iff.1 h
 unfold groupN at h1
 obtain ⟨k, hk, h1⟩ := Option.bind_eq_some_iff.1 h1
 split at h1
 ·rename_i e
  injection h1 with h1
  subst h1
  refine ⟨?_, by omega, by unfold itoa; rw [if_neg (by omega), Int.toNat_natCast]; exact e.1, by omega⟩
  rw [← e.1]
  have hne := decDigits_ne k
  have hdig := decDigits_dig k
  cases hd : decDigits k with
  | nil => exact absurd hd hne
  | cons c r =>
   have hc := hdig c (by rw [hd]; simp)
   unfold isDig at hc
   simp only [decide_eq_true_eq, Bool.and_eq_true] at hc
   have hm : parseMag (decDigits k) = .ok k := by
    rw [parseMag, if_neg hne, parse_digits _ 0 k (digitsD_dec k) (by omega)]
   rw [hd] at hm
   unfold atoiAll
   dsimp only
   rw [if_neg (by omega), hm]
   dsimp only
   rw [if_neg (by omega), if_neg (by omega), if_neg (by omega)]
 cases h1
end Go.Proofs.YtolaedhdjcnijaaGreatDoor
