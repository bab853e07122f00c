/-
 A plan's text read line by line, told plainly. No program stands here.
-/
import Derived.Test.YtolaedhdjcnijaaGreatDoorKb19
import Derived.Test.YtolaedhdjcnijaaGreatDoorKb20
set_option linter.unusedVariables false
set_option linter.unusedSimpArgs false
namespace Go.Proofs.YtolaedhdjcnijaaGreatDoor
open Go Go.Mw Go.Lib
set_option maxRecDepth 4000
def cutSp (s : List UInt8) : List UInt8 × List UInt8 := (cutL s).getD (s, [])
theorem cutSp_none {s : List UInt8} (h : cutL s = none) : cutSp s = (s, []) := by unfold cutSp; rw [h]; rfl
theorem cutSp_some {s a b : List UInt8} (h : cutL s = some (a, b)) : cutSp s = (a, b) := by unfold cutSp; rw [h]; rfl
def whereN : List UInt8 := [119, 104, 101, 114, 101]
def outN : List UInt8 := [111, 117, 116]
def groupB : List UInt8 := [103, 114, 111, 117, 112]
def stepsO (t : List UInt8) : Option (List StepM) := if (parseS t).2 = 0 ∧ (parseS t).1 ≠ [] then some (parseS t).1 else none
def outC (s : List UInt8) : Option OutM := if (cutSp s).1 = outN ∧ isNameS (cutSp (cutSp s).2).1 = true then (stepsO (cutSp (cutSp s).2).2).map fun l => ⟨(cutSp (cutSp s).2).1, l⟩ else none
def groupC (t : List UInt8) : Option Int := if t = noneW then some (-1) else (groupN t).map fun n : Nat => ((n : Nat) : Int)
def lineT (p : PlanM) (st : Int) (s : List UInt8) : Option (PlanM × Int) :=
 if st = 0 then (if (cutSp s).1 = whereN then (if (cutSp s).2 = noneW then some (p, 1) else (stepsO (cutSp s).2).map fun l => (⟨l, p.cols, p.group⟩, 1)) else none)
 else if st = 2 ∧ (cutSp s).1 = groupB then (groupC (cutSp s).2).map fun g => (⟨p.wh, p.cols, g⟩, 3)
 else if st = 1 ∨ st = 2 then (outC s).map fun o => (⟨p.wh, p.cols ++ [o], p.group⟩, 2)
 else none
def goG (p : PlanM) (st : Int) : List (List UInt8) → Option (PlanM × Int) × Nat
 | [] => (some (p, st), 0)
 | x :: l => match lineT p st x with
  | none => (none, 0)
  | some (p', st') => ((goG p' st' l).1, (goG p' st' l).2 + 1)
def runG (l : List (List UInt8)) : Option (PlanM × Int) := l.foldl (fun o x => o.bind fun r => lineT r.1 r.2 x) (some (plan0, 0))
theorem run_snoc (l : List (List UInt8)) (x : List UInt8) : runG (l ++ [x]) = (runG l).bind fun r => lineT r.1 r.2 x := by
 unfold runG; rw [List.foldl_append]; rfl
theorem go_append : ∀ (l m : List (List UInt8)) (p : PlanM) (st : Int) (q : PlanM) (t : Int), goG p st l = (some (q, t), l.length) → goG p st (l ++ m) = ((goG q t m).1, (goG q t m).2 + l.length)
 | [], m, p, st, q, t, h => by
  unfold goG at h
  injection h with h _
  injection h with h
  injection h with h1 h2
  subst h1; subst h2; rfl
 | x :: l, m, p, st, q, t, h => by
  rw [List.cons_append]
  rw [goG] at h ⊢
  cases hl : lineT p st x with
  | none => rw [hl] at h; injection h with h; cases h
  | some r =>
   obtain ⟨p', st'⟩ := r
   rw [hl] at h
   dsimp only at h ⊢
   injection h with h1 h2
   rw [List.length_cons] at h2
   rw [go_append l m p' st' q t (Prod.ext h1 (by dsimp only; omega)), List.length_cons]
   exact Prod.ext rfl (by dsimp only; omega)
theorem snoc_of {α : Type} {l : List α} (h : l ≠ []) : ∃ m x, l = m ++ [x] := ⟨l.dropLast, l.getLast h, (List.dropLast_concat_getLast h).symm⟩
theorem run_go : ∀ (l : List (List UInt8)) {q : PlanM} {t : Int}, runG l = some (q, t) → goG plan0 0 l = (some (q, t), l.length) := by
 intro l
 have key : ∀ n (l : List (List UInt8)), l.length = n → ∀ {q : PlanM} {t : Int}, runG l = some (q, t) → goG plan0 0 l = (some (q, t), l.length) := by
  intro n
  induction n with
  | zero =>
   intro l hl q t h
   have := List.eq_nil_of_length_eq_zero hl
   subst this
   injection h with h
   injection h with h1 h2
   subst h1; subst h2; rfl
  | succ n ih =>
   intro l hl q t h
   obtain ⟨m, x, rfl⟩ : ∃ m x, l = m ++ [x] := snoc_of (by intro e; rw [e] at hl; cases hl)
   rw [run_snoc] at h
   obtain ⟨⟨p', t'⟩, h1, h2⟩ := Option.bind_eq_some_iff.1 h
   rw [go_append m [x] plan0 0 p' t' (ih m (by rw [List.length_append, List.length_singleton] at hl; omega) h1)]
   dsimp only at h2
   unfold goG
   rw [h2]
   dsimp only
   unfold goG
   rw [List.length_append, List.length_singleton]
   exact Prod.ext rfl (by dsimp only; omega)
 exact fun {q t} h => key l.length l rfl h
/-! The words of a line. -/
theorem cut_eq {s a b : List UInt8} (h : cutL s = some (a, b)) : s = a ++ [32] ++ b := by
 unfold cutL at h
 obtain ⟨i, hi, h⟩ := Option.map_eq_some_iff.1 h
 injection h with h1 h2
 subst h1; subst h2
 rw [List.idxOf?, List.findIdx?_eq_some_iff_getElem] at hi
 obtain ⟨hlt, h32, _⟩ := hi
 have e : s[i] = 32 := by simpa using h32
 conv => lhs; rw [← List.take_append_drop i s, List.drop_eq_getElem_cons hlt, e]
 simp
theorem cut_none {s : List UInt8} (h : cutL s = none) : ∀ c ∈ s, c ≠ 32 := by
 unfold cutL at h
 rw [Option.map_eq_none_iff, List.idxOf?, List.findIdx?_eq_none_iff] at h
 intro c hc e
 have := h c hc
 rw [e] at this
 simp at this
theorem ahead_cut {w s : List UInt8} (hw : ∀ c ∈ w, c ≠ 32) : aheadL (w ++ [32]) s = (cutL s).bind fun x => if x.1 = w then some x.2 else none := by
 cases hc : cutL s with
 | none =>
  cases ha : aheadL (w ++ [32]) s with
  | none => rfl
  | some t =>
   have := ahead_eq ha
   exact absurd rfl (cut_none hc 32 (by rw [this]; simp))
 | some x =>
  obtain ⟨a, b⟩ := x
  show _ = if a = w then some b else none
  by_cases e : a = w
  ·rw [if_pos e, cut_eq hc, e, ahead_self]
  rw [if_neg e]
  cases ha : aheadL (w ++ [32]) s with
  | none => rfl
  | some t =>
   have h1 := ahead_eq ha
   rw [h1, idx_name hw] at hc
   injection hc with hc
   injection hc with hc _
   exact absurd hc.symm e
theorem parse_nil : parseS [] = ([], 0) := by rw [← parseF_eq]; decide +kernel
theorem steps_nil : stepsO [] = none := by unfold stepsO; rw [parse_nil]; simp
theorem noneW_ne : ([] : List UInt8) ≠ noneW := by unfold noneW; simp
theorem line_where {p : PlanM} {s : List UInt8} (h : p.wh = []) : lineT p 0 s = (whereL s).map fun l => (⟨l, p.cols, p.group⟩, 1) := by
 have e : whereW = whereN ++ [32] := rfl
 unfold lineT whereL
 rw [if_pos rfl, e, ahead_cut (by decide)]
 cases hc : cutL s with
 | none =>
  rw [cutSp_none hc]
  show (if s = whereN then (if ([] : List UInt8) = noneW then _ else _) else none) = _
  rw [if_neg noneW_ne, steps_nil]
  split <;> rfl
 | some x =>
  obtain ⟨a, b⟩ := x
  rw [cutSp_some hc]
  dsimp only
  show (if a = whereN then (if b = noneW then _ else _) else none) = Option.map _ (((if a = whereN then some b else none)).bind _)
  by_cases e1 : a = whereN
  ·rw [if_pos e1, if_pos e1]
   show _ = Option.map _ (if b = [] then none else if b = noneW then some [] else if (parseS b).2 = 0 then some (parseS b).1 else none)
   by_cases e2 : b = []
   ·rw [if_pos e2, e2, if_neg noneW_ne, steps_nil, Option.map_none]
   rw [if_neg e2]
   by_cases e3 : b = noneW
   ·rw [if_pos e3, if_pos e3]
    show some (p, (1 : Int)) = some (⟨[], p.cols, p.group⟩, 1)
    rw [← h]
   rw [if_neg e3, if_neg e3]
   unfold stepsO
   by_cases e4 : (parseS b).2 = 0
   ·rw [if_pos e4, if_pos ⟨e4, parse_some e4 e2⟩]
   rw [if_neg e4, if_neg fun h => e4 h.1, Option.map_none]
  rw [if_neg e1, if_neg e1]; rfl
theorem out_cut (s : List UInt8) : outC s = outL s := by
 have e : outW = outN ++ [32] := rfl
 unfold outC outL
 rw [e, ahead_cut (by decide)]
 cases hc : cutL s with
 | none =>
  rw [cutSp_none hc]
  dsimp only
  rw [cutSp_none (s := []) rfl]
  dsimp only
  rw [steps_nil]
  show (if s = outN ∧ isNameS [] = true then none else none) = none
  split <;> rfl
 | some x =>
  obtain ⟨a, b⟩ := x
  rw [cutSp_some hc]
  dsimp only
  show _ = ((if a = outN then some b else none)).bind _
  by_cases e1 : a = outN
  ·rw [if_pos e1]
   show _ = (cutL b).bind _
   cases hb : cutL b with
   | none =>
    rw [cutSp_none hb]
    dsimp only
    rw [steps_nil]
    show (if a = outN ∧ isNameS b = true then none else none) = none
    split <;> rfl
   | some y =>
    obtain ⟨n, t⟩ := y
    rw [cutSp_some hb]
    show (if a = outN ∧ isNameS n = true then Option.map _ (stepsO t) else none) = if (parseS t).2 = 0 ∧ (parseS t).1 ≠ [] ∧ isNameS n = true then some (⟨n, (parseS t).1⟩ : OutM) else none
    unfold stepsO
    by_cases e2 : isNameS n = true
    ·rw [if_pos ⟨e1, e2⟩]
     by_cases e3 : (parseS t).2 = 0 ∧ (parseS t).1 ≠ []
     ·rw [if_pos e3, if_pos ⟨e3.1, e3.2, e2⟩]; rfl
     rw [if_neg e3, if_neg fun h => e3 ⟨h.1, h.2.1⟩]; rfl
    rw [if_neg fun h => e2 h.2, if_neg fun h => e2 h.2.2]
  rw [if_neg fun h => e1 h.1, if_neg e1]; rfl
theorem group_nil : groupC [] = none := by
 unfold groupC groupN
 rw [if_neg noneW_ne]
 have : decDigits 0 ≠ ([] : List UInt8) := decDigits_ne 0
 show Option.map _ (if decDigits 0 = [] ∧ _ then _ else none) = none
 rw [if_neg fun h => this h.1]; rfl
theorem group_cut (s : List UInt8) : (if (cutSp s).1 = groupB then groupC (cutSp s).2 else none) = groupL s := by
 have e : groupW = groupB ++ [32] := rfl
 unfold groupL
 rw [e, ahead_cut (by decide)]
 cases hc : cutL s with
 | none =>
  rw [cutSp_none hc]
  dsimp only
  rw [group_nil]
  show (if s = groupB then none else none) = none
  split <;> rfl
 | some x =>
  obtain ⟨a, b⟩ := x
  rw [cutSp_some hc]
  show (if a = groupB then groupC b else none) = ((if a = groupB then some b else none)).bind _
  by_cases e1 : a = groupB
  ·rw [if_pos e1, if_pos e1]; rfl
  rw [if_neg e1, if_neg e1]; rfl
theorem line_out {p : PlanM} {st : Int} {s : List UInt8} {o : OutM} (hst : st = 1 ∨ st = 2) (h : outL s = some o) : lineT p st s = some (⟨p.wh, p.cols ++ [o], p.group⟩, 2) := by
 have h' := h
 rw [← out_cut] at h
 have hw : (cutSp s).1 = outN := by
  unfold outC at h
  split at h
  ·rename_i e; exact e.1
  cases h
 unfold lineT
 rw [if_neg (by omega), if_neg (fun h1 => absurd (hw.symm.trans h1.2) (by decide)), if_pos hst, h]; rfl
theorem line_first {p : PlanM} {s : List UInt8} (h : outL s = none) : lineT p 1 s = none := by
 unfold lineT
 rw [if_neg (by decide), if_neg (fun h => absurd h.1 (by decide)), if_pos (.inl rfl), out_cut, h]; rfl
theorem line_last {p : PlanM} {s : List UInt8} (h : outL s = none) : lineT p 2 s = (groupL s).map fun g => (⟨p.wh, p.cols, g⟩, 3) := by
 unfold lineT
 rw [if_neg (by decide), ← group_cut]
 by_cases e : (cutSp s).1 = groupB
 ·rw [if_pos ⟨rfl, e⟩, if_pos e]
 rw [if_neg fun h => e h.2, if_pos (.inr rfl), out_cut, h, if_neg e]; rfl
theorem line_over {p : PlanM} {s : List UInt8} : lineT p 3 s = none := by
 unfold lineT
 rw [if_neg (by decide), if_neg (fun h => absurd h.1 (by decide)), if_neg (by decide)]
theorem go_outs : ∀ (l : List (List UInt8)) (p : PlanM) (st : Int), st = 1 ∨ st = 2 → goG p st l =
    if l.length ≤ (colsL l).length then (some (⟨p.wh, p.cols ++ colsL l, p.group⟩, if (colsL l).length = 0 then st else 2), (colsL l).length)
    else if st = 1 ∧ (colsL l).length = 0 then (none, 0)
    else match groupL (l.getD (colsL l).length []) with
      | none => (none, (colsL l).length)
      | some g => if l.length = (colsL l).length + 1 then (some (⟨p.wh, p.cols ++ colsL l, g⟩, 3), (colsL l).length + 1) else (none, (colsL l).length + 1)
  | [], p, st, _ => by
    unfold goG colsL
    simp
  | x :: l, p, st, hst => by
    cases ho : outL x with
    | some o =>
      have hc : colsL (x :: l) = o :: colsL l := by rw [colsL, ho]
      rw [goG, line_out hst ho, hc]
      dsimp only
      rw [go_outs l _ 2 (.inr rfl)]
      simp only [List.length_cons, Nat.add_le_add_iff_right, List.getD_cons_succ, Nat.add_right_cancel_iff]
      rw [if_neg (show ¬ ((colsL l).length + 1 = 0) by omega), if_neg (show ¬ (st = 1 ∧ (colsL l).length + 1 = 0) by omega), if_neg (show ¬ ((2 : Int) = 1 ∧ (colsL l).length = 0) by omega)]
      split
      · simp
      cases groupL (l.getD (colsL l).length []) with
      | none => rfl
      | some g => dsimp only; split <;> simp
    | none =>
      have hc : colsL (x :: l) = [] := by rw [colsL, ho]
      rw [goG, hc]
      simp only [List.length_cons, List.length_nil, List.getD_cons_zero]
      rw [if_neg (by omega)]
      rcases hst with rfl | rfl
      · rw [line_first ho, if_pos (by simp)]
      rw [line_last ho, if_neg (by decide)]
      cases groupL x with
      | none => rfl
      | some g =>
        show ((goG _ 3 l).1, (goG _ 3 l).2 + 1) = if l.length + 1 = 0 + 1 then _ else _
        cases l with
        | nil => simp [goG]
        | cons y l => rw [goG, line_over, if_neg (by simp)]
theorem parse_go {s : List UInt8} (hs : s.length ≤ 1048576) : parseP s = match goG plan0 0 (if (linesL s).2 = true then (linesL s).1 else (linesL s).1.dropLast) with
    | (none, n) => (plan0, (n : Int), 4)
    | (some r, n) => if (linesL s).2 = false ∨ r.2 ≠ 3 then (plan0, (n : Int), 4) else if mayP r.1 = false then (plan0, 0, 2) else (r.1, 0, 0) := by
  obtain ⟨ls, whole, hl⟩ : ∃ ls whole, linesL s = (ls, whole) := ⟨_, _, rfl⟩
  have hdl : ls.dropLast = ls.take (ls.length - 1) := List.dropLast_eq_take
  unfold parseP
  rw [if_neg (by omega), hl]
  dsimp only
  obtain ⟨many, hm⟩ : ∃ many, many = if whole = true then ls.length else ls.length - 1 := ⟨_, rfl⟩
  have hmle : many ≤ ls.length := by rw [hm]; split <;> omega
  have htk : (if whole = true then ls else ls.dropLast) = ls.take many := by
    rw [hm]
    split
    · rw [List.take_length]
    exact hdl
  rw [← hm, htk]
  by_cases h0 : many < 1
  · rw [if_pos h0, show many = 0 by omega, List.take_zero]
    unfold goG
    dsimp only
    rw [if_pos (.inr (by decide))]
    rfl
  rw [if_neg h0]
  cases ls with
  | nil => simp at hmle; omega
  | cons x l =>
    obtain ⟨m, rfl⟩ : ∃ m, many = m + 1 := ⟨many - 1, by omega⟩
    rw [List.take_succ_cons, List.getD_cons_zero, goG, line_where rfl, List.drop_one, List.tail_cons]
    cases hw : whereL x with
    | none => rfl
    | some wv =>
      dsimp only [Option.map]
      rw [go_outs _ _ 1 (.inl rfl)]
      have hml : (l.take m).length = m := by rw [List.length_take]; rw [List.length_cons] at hmle; omega
      obtain ⟨cs, hcs⟩ : ∃ cs, cs = colsL (l.take m) := ⟨_, rfl⟩
      rw [← hcs, hml]
      by_cases h1 : m ≤ cs.length
      · rw [if_pos h1, if_pos (.inl (by omega))]
        dsimp only
        rw [if_pos (.inr (by split <;> decide)), Nat.add_comm]
      rw [if_neg h1]
      by_cases h2 : cs.length = 0
      · rw [if_pos (.inr h2), if_pos ⟨rfl, h2⟩, h2]
      rw [if_neg (by omega), if_neg (fun h => h2 h.2)]
      have hgd : (x :: l).getD (1 + cs.length) [] = (l.take m).getD cs.length [] := by
        rw [Nat.add_comm, List.getD_cons_succ, List.getD_eq_getElem?_getD, List.getD_eq_getElem?_getD, List.getElem?_take, if_pos (by omega)]
      rw [hgd]
      cases groupL ((l.take m).getD cs.length []) with
      | none => dsimp only; rw [Nat.add_comm]
      | some g =>
        dsimp only
        by_cases h3 : m = cs.length + 1
        · rw [if_pos h3]
          dsimp only
          show (if 1 + cs.length + 1 < l.length + 1 then _ else _) = if whole = false ∨ ¬ ((3 : Int) = 3) then _ else _
          cases whole with
          | true =>
            rw [if_pos rfl, List.length_cons] at hm
            rw [if_neg (by omega), if_neg (show ¬ (true = false ∨ ¬ (3 : Int) = 3) by simp)]
            rfl
          | false =>
            rw [if_neg (by decide), List.length_cons] at hm
            rw [if_pos (by omega), if_pos (.inl rfl), Nat.add_comm 1]
        rw [if_neg h3]
        dsimp only
        rw [if_pos (by rw [List.length_cons]; rw [List.length_cons] at hmle; omega), Nat.add_comm 1]
theorem parse_done {s : List UInt8} {p : PlanM} {st : Int} (hs : s.length ≤ 1048576) (hw : (linesL s).2 = true) (h : runG (linesL s).1 = some (p, st)) :
    parseP s = if st ≠ 3 then (plan0, ((linesL s).1.length : Int), 4) else if mayP p = false then (plan0, 0, 2) else (p, 0, 0) := by
  rw [parse_go hs, if_pos hw, run_go _ h]
  dsimp only
  rw [hw]
  by_cases e : st = 3
  · rw [if_neg (show ¬ (true = false ∨ st ≠ 3) by simp [e]), if_neg (show ¬ st ≠ 3 from fun h => h e)]
  rw [if_pos (.inr e), if_pos e]
theorem parse_fail {s : List UInt8} {p : PlanM} {st : Int} {pre l : List (List UInt8)} {x : List UInt8} (hs : s.length ≤ 1048576) (hl : (if (linesL s).2 = true then (linesL s).1 else (linesL s).1.dropLast) = pre ++ x :: l) (h : runG pre = some (p, st)) (hx : lineT p st x = none) :
    parseP s = (plan0, (pre.length : Int), 4) := by
  rw [parse_go hs, hl, go_append pre _ _ _ _ _ (run_go _ h), goG, hx]
  dsimp only
  rw [Nat.zero_add]
theorem parse_part {s : List UInt8} {p : PlanM} {st : Int} (hs : s.length ≤ 1048576) (hw : (linesL s).2 = false) (h : runG (linesL s).1.dropLast = some (p, st)) :
    parseP s = (plan0, ((linesL s).1.dropLast.length : Int), 4) := by
  rw [parse_go hs, hw, if_neg (by decide), run_go _ h]
  dsimp only
  rw [if_pos (.inl rfl)]
theorem groupN_atoi {t : List UInt8} {n : Int} : (atoiAll t = .ok n ∧ 0 ≤ n ∧ itoa n = t ∧ n ≤ 1048576) ↔ (groupN t).map (fun n : Nat => ((n : Nat) : Int)) = some n := by
 constructor
 ·rintro ⟨_, h0, h1, h2⟩
  unfold itoa at h1
  rw [if_neg (by omega)] at h1
  unfold groupN
  rw [← h1, digitsD_dec]
  show Option.map _ (if decDigits n.toNat = decDigits n.toNat ∧ n.toNat ≤ 1048576 then some n.toNat else none) = _
  rw [if_pos ⟨rfl, by omega⟩]
  show some ((n.toNat : Nat) : Int) = some n
  rw [Int.toNat_of_nonneg h0]
 intro h
 obtain ⟨m, h1, rfl⟩ := Option.map_eq_some_iff.1 h
 unfold groupN at h1
 obtain ⟨k, hk, h1⟩ := Option.bind_eq_some_iff.1 h1
 split at h1
 ·rename_i e
  injection h1 with h1
  subst h1
  refine ⟨?_, by omega, by unfold itoa; rw [if_neg (by omega), Int.toNat_natCast]; exact e.1, by omega⟩
  rw [← e.1]
  have hne := decDigits_ne k
  have hdig := decDigits_dig k
  cases hd : decDigits k with
  | nil => exact absurd hd hne
  | cons c r =>
   have hc := hdig c (by rw [hd]; simp)
   unfold isDig at hc
   simp only [decide_eq_true_eq, Bool.and_eq_true] at hc
   have hm : parseMag (decDigits k) = .ok k := by
    rw [parseMag, if_neg hne, parse_digits _ 0 k (digitsD_dec k) (by omega)]
   rw [hd] at hm
   unfold atoiAll
   dsimp only
   rw [if_neg (by omega), hm]
   dsimp only
   rw [if_neg (by omega), if_neg (by omega), if_neg (by omega)]
 cases h1
theorem index_idx : ∀ s : List UInt8, Lib.index s [32] = match s.idxOf? 32 with | some i => (i : Int) | none => -1
 | [] => rfl
 | c :: t => by
  have ih := index_idx t
  by_cases h : c = 32
  ·subst h
   have e : List.idxOf? 32 (32 :: t) = some 0 := by unfold List.idxOf?; rw [List.findIdx?_cons]; rfl
   rw [index_hit1, e]; rfl
  have hb : (c == 32) = false := by simpa using h
  have e : List.idxOf? 32 (c :: t) = (List.idxOf? 32 t).map (· + 1) := by unfold List.idxOf?; rw [List.findIdx?_cons, hb]; rfl
  rw [index_miss1 h, ih, e]
  cases List.idxOf? 32 t with
  | none => rfl
  | some i =>
   show (if (i : Int) = -1 then (-1 : Int) else (i : Int) + 1) = ((i + 1 : Nat) : Int)
   rw [if_neg (by omega)]
   omega
theorem cut_lib (s : List UInt8) : (Lib.cut s [32]).1 = (cutSp s).1 ∧ (Lib.cut s [32]).2.1 = (cutSp s).2 := by
 unfold Lib.cut cutSp cutL
 rw [index_idx]
 cases h : s.idxOf? 32 with
 | none => simp
 | some i => simp
theorem cutSp_len (s : List UInt8) : (cutSp s).1.length ≤ s.length ∧ (cutSp s).2.length ≤ s.length := by
 unfold cutSp
 cases h : cutL s with
 | none => simp
 | some x =>
  obtain ⟨a, b⟩ := x
  have := cut_eq h
  rw [this]
  simp only [Option.getD_some, List.length_append]
  omega
theorem outs_one {n : List UInt8} {v : Value} (hv : v.oneCell' = true) : ∀ u ∈ [(n, v)].flatMap outCells, u.oneCell' = true := fun u hu => by
 simp only [List.flatMap_cons, List.flatMap_nil, List.append_nil, outCells, List.mem_cons, List.not_mem_nil, or_false] at hu
 rcases hu with rfl | rfl
 ·rfl
 exact hv
theorem atoi_fits {l : List UInt8} {v : Int} (h : atoiAll l = .ok v) : fits v := atoiAll_bounds h
def readH (b : Nat) (p : PlanM) (st : Int) : HP := exH fun x : Value × Value × List (List UInt8 × Value) => starL [blk b [x.1, x.2.1, I p.group, I st] 74, seeH x.1 stepCells 3 p.wh, rowD 53 2 outCells x.2.1 x.2.2, rawsH x.2.2 p.cols]
def nextH (b : Nat) : Option (PlanM × Int) → HP
 | some r => readH b r.1 r.2
 | none => emp
section
variable {w w₀ : World} {S : Nat → Prop} {rs : List HP}
theorem Sep_readH {b : Nat} {p : PlanM} {st : Int} {vw vc : Value} {r : List (List UInt8 × Value)} (H : Mw.Sep w₀ S (blk b [vw, vc, I p.group, I st] 74 :: seeH vw stepCells 3 p.wh :: rowD 53 2 outCells vc r :: rawsH r p.cols :: rs) w) : Mw.Sep w₀ S (readH b p st :: rs) w :=
 Sep.pack0 (p := fun x : Value × Value × List (List UInt8 × Value) => starL [blk b [x.1, x.2.1, I p.group, I st] 74, seeH x.1 stepCells 3 p.wh, rowD 53 2 outCells x.2.1 x.2.2, rawsH x.2.2 p.cols]) (vw, vc, r) (Sep.bundle (l := [_, _, _, _]) H)
theorem Sep_unread {b : Nat} {p : PlanM} {st : Int} (H : Mw.Sep w₀ S (readH b p st :: rs) w) : ∃ vw vc r, Mw.Sep w₀ S (blk b [vw, vc, I p.group, I st] 74 :: seeH vw stepCells 3 p.wh :: rowD 53 2 outCells vc r :: rawsH r p.cols :: rs) w := by
 unfold readH at H
 obtain ⟨⟨vw, vc, r⟩, H⟩ := H.ex0
 exact ⟨vw, vc, r, Sep.parts H⟩
theorem Sep_none {F : Nat → Prop} (H : Mw.Sep w₀ F rs w) : Turn F emp w₀ w := (Sep.addPure (φ := True) trivial H).first.turn
theorem cut_ok (s : List UInt8) (hl : s.length ≤ 1048576) (hT : TabsX w) : Rets Tryz.prog 91 [str s, str [32]] w fun v w' => (∃ b, v = .tuple #[str (cutSp s).1, str (cutSp s).2, .bool b]) ∧ Kept noB w w' := by
 obtain ⟨m, hm⟩ := hT.len
 have hs : (⟨s.toArray⟩ : ByteArray).size = s.length := Mw.size_mk s
 exact Calls.mono (Tryz.strings_Cut ⟨s.toArray⟩ ⟨#[32]⟩ m w (by rw [hs]; omega) hm) fun e w' he => by
  obtain ⟨rfl, n, rfl⟩ := he
  obtain ⟨h1, h2⟩ := cut_lib s
  refine ⟨⟨(Lib.cut s [32]).2.2, ?_⟩, (Kept.refl noB w).drewn _⟩
  show Value.tuple #[str (Lib.cut s [32]).1, str (Lib.cut s [32]).2.1, .bool (Lib.cut s [32]).2.2] = _
  rw [h1, h2]
theorem atoi_ok (t : List UInt8) (hl : t.length ≤ 1048576) (hT : TabsX w) : Rets Tryz.prog 93 [str t] w fun v w' => (∃ n e b, v = .tuple #[I n, e] ∧ IsNil e b ∧ (b = true → atoiAll t = .ok n) ∧ (b = false → ∀ m, atoiAll t ≠ .ok m)) ∧ Kept noB w w' := by
 have hs : (⟨t.toArray⟩ : ByteArray).size = t.length := Mw.size_mk t
 cases h : atoiAll t
 ·rename_i v
  exact Calls.mono (Tryz.strconv_Atoi_ok ⟨t.toArray⟩ (by rw [hs]; omega) v h w) fun e w' he => by
   obtain ⟨rfl, hw⟩ := he
   refine ⟨⟨v, .nilIface, true, rfl, .inl ⟨rfl, rfl⟩, fun _ => rfl, fun hf => by cases hf⟩, ?_⟩
   rcases hw with rfl | ⟨t, rfl⟩
   ·exact Kept.refl _ _
   exact Kept.of_below (Lib.bytesWorld_below _ _ _)
 ·skip
  obtain ⟨tp, p, hv⟩ := hT.syn
  exact Calls.mono (Tryz.strconv_Atoi_syntax_var ⟨t.toArray⟩ (by rw [hs]; omega) h rfl tp p w hv) fun e w' he => by
   obtain ⟨N, rfl, _, _, hb⟩ := he
   exact ⟨⟨_, _, false, rfl, .inr ⟨rfl, _, _, rfl⟩, (fun hf => by cases hf), fun _ m hm => by cases hm⟩, Kept.of_below hb⟩
 ·skip
  obtain ⟨tp, p, hv⟩ := hT.ran
  exact Calls.mono (Tryz.strconv_Atoi_range_var ⟨t.toArray⟩ (by rw [hs]; omega) h tp p w hv) fun e w' he => by
   obtain ⟨N, rfl, _, _, hb⟩ := he
   exact ⟨⟨_, _, false, rfl, .inr ⟨rfl, _, _, rfl⟩, (fun hf => by cases hf), fun _ m hm => by cases hm⟩, Kept.of_below hb⟩
theorem stepsT_ok (t : List UInt8) (hl : t.length ≤ 1000000) (hT : TabsX w) : Rets Tryz.prog 92 [str t] w fun v w' => ∃ x, v = .tuple #[x, .bool (stepsO t).isSome] ∧ True ∧ Turn noB (rowD 60 3 stepCells x (parseS t).1) w w' := by
 have H := Sep.start0 w
 obtain ⟨res, hres⟩ : ∃ res, res = (stepsO t).isSome := ⟨_, rfl⟩
 rw [← hres]
 unfold stepsO at hres
 refine rets1 Tryz.func92 rfl rfl rfl rfl ?_
 refine Sr (Am ?_)
 refine Am ?_
 refine Nx (Mv ?_)
 refine FL_callN H (parseE_ok t (.inl hl) (by omega) (hT.keep H.kept)) (h := fun x w5 _ H5 k4 => ?_)
 obtain ⟨B, cb, rfl, hcb, hB⟩ := Sep.formD H5 At0
 refine Mv ?_
 refine Vx ?_
 refine Vx ?_
 refine Am ?_
 refine Am ?_
 refine Nx (Mv ?_)
 refine Mv ?_
 refine Ve ?_
 refine Mv ?_
 refine FL_splitP (t := 14) rfl (fun hs15 => ?_) (fun hs15 => ?_)
 ·have he : (parseS t).2 = 0 := hs15
  refine On (Mv ?_)
  refine On (Vs ?_)
  refine On (Vg ?_)
  refine Pt ?_
  refine Am ?_
  refine Am ?_
  refine Qn (FW_ret (Qfn_ret (hR := ?_)))
  exact ⟨_, by first | (rw [hres]; rfl) | (rw [hres]; by_cases hq : (parseS t).1 = [] <;> simp [hq, he, resPack, List.length_pos_iff]), trivial, H5.turn⟩
 rw [if_neg (fun h => hs15 h.1)] at hres
 refine Of (Of (Of (Pf ?_)))
 refine Am ?_
 refine Am ?_
 refine Qn (FW_ret (Qfn_ret (hR := ?_)))
 exact ⟨_, by first | (rw [hres]; rfl) | (rw [hres]; by_cases hq : (parseS t).1 = [] <;> simp [hq, he, resPack, List.length_pos_iff]), trivial, H5.turn⟩
theorem line_ok {b : Nat} {F : Nat → Prop} {p : PlanM} {st : Int} (s : List UInt8) (hp : (readH b p st).ok F w) (hst : st = 0 ∨ st = 1 ∨ st = 2 ∨ st = 3) (hl : s.length ≤ 1000000) (hn : p.cols.length ≤ 1000000) (hT : ∀ w', Kept F w w' → TabsX w') :
    Rets Tryz.prog 45 [selfP b, str s] w fun v w' => v = .bool (lineT p st s).isSome ∧ Turn F (nextH b (lineT p st s)) w w' := by
  obtain ⟨vw, vc, r, H⟩ := Sep_unread (Sep.start1 hp)
  obtain ⟨res, hres⟩ : ∃ res, res = lineT p st s := ⟨_, rfl⟩
  rw [← hres]
  unfold lineT at hres
  obtain ⟨wd, hwd⟩ : ∃ wd, wd = (cutSp s).1 := ⟨_, rfl⟩
  obtain ⟨rest, hrest⟩ : ∃ rest, rest = (cutSp s).2 := ⟨_, rfl⟩
  have hrl : rest.length ≤ 1000000 := by have := (cutSp_len s).2; rw [hrest]; omega
  rw [← hwd, ← hrest] at hres
  obtain ⟨A, ca, rfl, hca, hA⟩ := Sep.formD H At2
  have hraw : RawOf w r p.cols := Sep.sees H At3
  have hrn := hraw.len
  have hvw : ∃ A c, vw = .slice A p.wh.length c := by
    obtain ⟨A, c, e, _⟩ := (Sep.sees H At1 : RowIn w vw stepCells 3 p.wh)
    exact ⟨A, c, e⟩
  obtain ⟨Aw, cw, rfl⟩ := hvw
  refine rets2 Tryz.func45 rfl rfl rfl rfl ?_
  refine Sr (Am ?_)
  refine Nx (Mv ?_)
  refine FL_call (cut_ok s (by omega) (hT _ H.kept)) rfl rfl (fun v' w4 hv => ?_)
  obtain ⟨⟨b7, rfl⟩, hkk⟩ := hv
  have H4 := H.keep hkk
  rw [← hwd, ← hrest]
  refine Mv ?_
  refine Vx ?_
  refine Vx ?_
  refine Vx ?_
  refine Am ?_
  refine Am ?_
  refine Am ?_
  refine Qn (FW_seq (Sr (Mv ?_)))
  refine Vv (Gives.nilCheck rfl) (Vf ?_)
  refine Ld H4 ?_
  refine Qn (FW_block (FW_cut (fun _ : Unit => [(0, selfP b), (5, str wd), (6, str rest)]) (fun _ w' => (res = (outC s).map fun o => (⟨p.wh, p.cols ++ [o], p.group⟩, 2)) ∧ Sep w F [blk b [.slice Aw p.wh.length cw, .slice A r.length ca, I p.group, I st] 74, seeH (.slice Aw p.wh.length cw) stepCells 3 p.wh, rowD 53 2 outCells (.slice A r.length ca) r, rawsH r p.cols] w') ?_ ?_))
  · refine FW_block (FW_seq (FW_block (FW_seq (FW_block (FW_seq (FW_seq (Sr (Ve ?_))))))))
    refine Am ?_
    refine Qn (Cp rfl (fun hc19 => ?_) (fun hc19 => ?_))
    · rw [if_pos hc19] at hres
      refine FW_exit (Qseq_exit (Qseq_exit (Qblk_exit (Qseq_normal (FW_seq (Sr (Mv ?_)))))))
      refine Vv (Gives.nilCheck rfl) (Vf ?_)
      refine FL_store H4 (h := fun w25 H25 => ?_)
      refine Qn (FW_seq (Sr (Mv ?_)))
      refine Vv (Gives.neqT rfl rfl) (Mv ?_)
      refine FL_splitP (t := 38) rfl (fun hs29 => ?_) (fun hs29 => ?_)
      · have hw1 : ¬ wd = whereN := hs29
        rw [if_neg hw1] at hres
        refine Of (Of (Pt ?_))
        refine Qn (FW_cond_true rfl ?_)
        refine Sr (Mv ?_)
        refine Vv (Gives.eqlT rfl rfl) (Am ?_)
        refine Qn (Rs (Qseq_ret (Qblk_ret (Qseq_ret (Qblk_ret (Qcut_ret (Qblk_ret (Qseq_ret (Qfn_ret (hR := ?_))))))))))
        exact ⟨by rw [hres]; exact congrArg Value.bool (decide_eq_false hw1), by rw [hres]; exact Sep_none H25⟩
      have hw1 : wd = whereN := Classical.not_not.1 hs29
      rw [if_pos hw1] at hres
      refine On (Mv ?_)
      refine On (Vv (Gives.eqlT rfl rfl) (Pf ?_))
      refine Qn (Cp rfl (fun hc40 => ?_) (fun hc40 => ?_))
      · have hr1 : rest = noneW := hc40
        rw [if_pos hr1] at hres
        refine Sr (Mv ?_)
        refine Vv (Gives.eqlT rfl rfl) (Am ?_)
        refine Qn (Rs (Qseq_ret (Qblk_ret (Qseq_ret (Qblk_ret (Qcut_ret (Qblk_ret (Qseq_ret (Qfn_ret (hR := ?_))))))))))
        exact ⟨by rw [hres]; exact congrArg Value.bool (decide_eq_true hw1), by rw [hres]; exact (Sep_readH (p := p) H25).first.turn⟩
      rw [if_neg (show ¬ rest = noneW from hc40)] at hres
      refine Sk (Sr (Mv ?_))
      refine FL_callN H25 (stepsT_ok rest hrl (hT _ H25.kept)) (h := fun x w49 _ H49 k48 => ?_)
      obtain ⟨B, cb, rfl, hcb, hB⟩ := Sep.formD H49 At0
      refine Mv ?_
      refine Vx ?_
      refine Vx ?_
      refine Am ?_
      refine Am ?_
      refine Nx (Mv ?_)
      refine Mv ?_
      refine Vv (Gives.nilCheck rfl) (Vf ?_)
      refine Vf ?_
      refine FL_store H49 (h := fun w61 H61 => ?_)
      refine Nx (Mv ?_)
      refine Am ?_
      refine Qn (Rs (Qblk_ret (Qseq_ret (Qblk_ret (Qcut_ret (Qblk_ret (Qseq_ret (Qfn_ret (hR := ?_)))))))))
      rw [hres]
      unfold stepsO
      by_cases hq : (parseS rest).2 = 0 ∧ (parseS rest).1 ≠ []
      · rw [if_pos hq]
        refine ⟨rfl, ?_⟩
        exact (Sep_readH (p := ⟨(parseS rest).1, p.cols, p.group⟩) (Sep.front1 (Sep_seeRow H61 At0)).front2.drop0).first.turn
      rw [if_neg hq]
      exact ⟨rfl, Sep_none H61⟩
    have hs0 : ¬ st = 0 := hc19
    rw [if_neg hs0] at hres
    refine Sk (FW_seq (Sr (Ve ?_)))
    refine Am ?_
    refine Qn (Cp rfl (fun hc68 => ?_) (fun hc68 => ?_))
    · have hs2 : st = 2 := hc68
      refine FW_exit (Qseq_exit (Qseq_exit (Qblk_exit_ne rfl (Qseq_exit (Qblk_exit (Qseq_normal ?_))))))
      refine Sr (Mv ?_)
      refine Vv (Gives.eqlT rfl rfl) (Qn ?_)
      refine Cp rfl (fun hc72 => ?_) (fun hc72 => ?_)
      · rw [if_pos ⟨hs2, hc72⟩] at hres
        refine Sr (Mv ?_)
        refine Vv (Gives.nilCheck rfl) (Vf ?_)
        refine FL_store H4 (h := fun w78 H78 => ?_)
        refine Nx (Mv ?_)
        refine FL_call (atoi_ok rest (by omega) (hT _ H78.kept)) rfl rfl (fun v' w81 hv => ?_)
        obtain ⟨⟨n, ev, bn, rfl, hnil, hyes, hnot⟩, hkk⟩ := hv
        have H81 := H78.keep hkk
        refine Mv ?_
        refine Vx ?_
        refine Vx ?_
        refine Am ?_
        refine Am ?_
        refine Qn (FW_seq (Sr (Mv ?_)))
        refine Vv (Gives.eqlT rfl rfl) (Qn ?_)
        refine Cp rfl (fun hc89 => ?_) (fun hc89 => ?_)
        · have hr1 : rest = noneW := hc89
          have hgc : groupC rest = some (-1) := by unfold groupC; rw [if_pos hr1]
          rw [hgc] at hres
          refine FW_region (Am ?_)
          refine Am ?_
          refine Nx (Mv ?_)
          refine Mv ?_
          refine Vv (Gives.nilCheck rfl) (Vf ?_)
          refine Vf ?_
          refine FL_store H81 (h := fun w99 H99 => ?_)
          refine Nx (Mv ?_)
          refine Vv (Gives.eqlNilI (b := true) (.inl ⟨rfl, rfl⟩) rfl rfl) (Mv ?_)
          refine FL_split (t := 74) rfl (fun hs103 => ?_) (fun hs103 => ?_)
          · refine On (Mv ?_)
            refine On (Vl ?_)
            refine On (Mv ?_)
            refine FL_splitP (t := 77) rfl (fun hs108 => ?_) (fun hs108 => ?_)
            · refine Of (Of (Of (Of (Of (Ou (Ou (Of (On (Pt ?_)))))))))
              refine Pt ?_
              refine Mv ?_
              refine On (Mv ?_)
              refine On (Vv (Gives.geq rfl rfl) (On ?_))
              refine Mv ?_
              refine FL_splitP (t := 91) rfl (fun hs116 => ?_) (fun hs116 => ?_)
              · exact absurd hs116 (by decide)
              refine On (Mv ?_)
              refine On (Vv (Gives.eqlT rfl rfl) (On ?_))
              refine Pf ?_
              refine Pt ?_
              refine Am ?_
              refine Qn (FW_ret (Qblk_ret (Qcut_ret (Qblk_ret (Qseq_ret (Qfn_ret (hR := ?_)))))))
              exact ⟨by rw [hres]; exact congrArg Value.bool (decide_eq_true hr1), by rw [hres]; exact (Sep_readH (p := ⟨p.wh, p.cols, -1⟩) H99).first.turn⟩
            exact absurd (show (-1 : Int) < 0 by decide) hs108
          exact Bool.noConfusion hs103
        have hr1 : ¬ rest = noneW := hc89
        have hgc : groupC rest = (groupN rest).map fun n : Nat => ((n : Nat) : Int) := by unfold groupC; rw [if_neg hr1]
        refine Sk (Sr (Mv ?_))
        refine Mv ?_
        refine Vv (Gives.nilCheck rfl) (Vf ?_)
        refine Vf ?_
        refine FL_store H81 (h := fun w133 H133 => ?_)
        refine Nx (Mv ?_)
        refine Vv (Gives.eqlNilI hnil rfl rfl) (Mv ?_)
        refine FL_split (t := 74) rfl (fun hs137 => ?_) (fun hs137 => ?_)
        · have hat : atoiAll rest = .ok n := hyes hs137
          have hnf := atoi_fits hat
          refine On (Mv ?_)
          refine On (Vl ?_)
          refine On (Mv ?_)
          refine FL_splitP (t := 77) rfl (fun hs142 => ?_) (fun hs142 => ?_)
          · have hno : groupC rest = none := by
              rw [hgc]
              cases hq : groupN rest with
              | none => rfl
              | some k =>
                have h1 := (groupN_atoi.2 (show (groupN rest).map (fun n : Nat => ((n : Nat) : Int)) = some (k : Int) by rw [hq]; rfl)).1
                rw [hat] at h1
                injection h1 with h1
                omega
            refine Of (Of (Of (Of (Of (Ou (Ou (Of (On (Pt ?_)))))))))
            refine Pt ?_
            refine Mv ?_
            refine On (Mv ?_)
            refine On (Vv (Gives.geq rfl rfl) (On ?_))
            refine Mv ?_
            refine FL_splitP (t := 91) rfl (fun hs150 => ?_) (fun hs150 => ?_)
            · exact absurd hs150 (by omega)
            refine On (Mv ?_)
            refine On (Vv (Gives.eqlT rfl rfl) (On ?_))
            refine Pf ?_
            refine Pt ?_
            refine Am ?_
            refine Qn (FW_ret (Qblk_ret (Qcut_ret (Qblk_ret (Qseq_ret (Qfn_ret (hR := ?_)))))))
            exact ⟨by rw [hres, hno]; exact congrArg Value.bool (decide_eq_false hr1), by rw [hres, hno]; exact Sep_none H133⟩
          refine On (Mv ?_)
          refine On (FL_callQ H133 (itoa_ok n hnf (hT _ H133.kept)) (h := fun w160 H160 k159 => ?_))
          refine On (Mv ?_)
          refine On (Vv (Gives.eqlT rfl rfl) (On ?_))
          refine Mv ?_
          refine FL_splitP (t := 82) rfl (fun hs164 => ?_) (fun hs164 => ?_)
          · refine On (Mv ?_)
            refine On (Vv (Gives.leq rfl rfl) (On ?_))
            refine Pt ?_
            refine On (Pf ?_)
            refine Pt ?_
            refine Mv ?_
            refine FL_splitP (t := 88) rfl (fun hs171 => ?_) (fun hs171 => ?_)
            · have hsome : groupC rest = some n := by rw [hgc]; exact groupN_atoi.1 ⟨hat, by omega, by assumption, hs171⟩
              refine On (Mv ?_)
              refine On (Vv (Gives.geq rfl rfl) (On ?_))
              refine Mv ?_
              refine FL_splitP (t := 91) rfl (fun hs176 => ?_) (fun hs176 => ?_)
              · refine Of (Of (On (Pt ?_)))
                refine Pt ?_
                refine Am ?_
                refine Qn (FW_ret (Qblk_ret (Qcut_ret (Qblk_ret (Qseq_ret (Qfn_ret (hR := ?_)))))))
                exact ⟨by rw [hres, hsome]; rfl, by rw [hres, hsome]; exact (Sep_readH (p := ⟨p.wh, p.cols, n⟩) H160).first.turn⟩
              exact absurd (show 0 ≤ n by omega) hs176
            have hno : groupC rest = none := by
              rw [hgc]
              cases hq : groupN rest with
              | none => rfl
              | some k =>
                have h1 := groupN_atoi.2 (show (groupN rest).map (fun n : Nat => ((n : Nat) : Int)) = some (k : Int) by rw [hq]; rfl)
                have h2 := h1.1
                rw [hat] at h2
                injection h2 with h2
                omega
            refine Of (Of (Of (Ou (Ou (Of (Pf ?_))))))
            refine Am ?_
            refine Qn (FW_ret (Qblk_ret (Qcut_ret (Qblk_ret (Qseq_ret (Qfn_ret (hR := ?_)))))))
            exact ⟨by rw [hres, hno]; rfl, by rw [hres, hno]; exact Sep_none H160⟩
          have hno : groupC rest = none := by
            rw [hgc]
            cases hq : groupN rest with
            | none => rfl
            | some k =>
              have h1 := groupN_atoi.2 (show (groupN rest).map (fun n : Nat => ((n : Nat) : Int)) = some (k : Int) by rw [hq]; rfl)
              have h2 := h1.1
              rw [hat] at h2
              injection h2 with h2
              exact absurd (by rw [h2]; exact h1.2.2.1) hs164
          refine Of (Of (On (Pf ?_)))
          refine On (Pf ?_)
          refine Pt ?_
          refine Mv ?_
          refine Of (Of (Of (Ou (Ou (Of (Pf ?_))))))
          refine Am ?_
          refine Qn (FW_ret (Qblk_ret (Qcut_ret (Qblk_ret (Qseq_ret (Qfn_ret (hR := ?_)))))))
          exact ⟨by rw [hres, hno]; rfl, by rw [hres, hno]; exact Sep_none H160⟩
        have hno : groupC rest = none := by
          rw [hgc]
          cases hq : groupN rest with
          | none => rfl
          | some k => exact absurd (groupN_atoi.2 (by rw [hq]; rfl)).1 (hnot (by simpa using hs137) _)
        refine Of (Of (Of (Ou (Ou (Ou (Ou (Ou (Ou (Ou (Ou (Of (Pf ?_))))))))))))
        refine Mv ?_
        refine Of (Of (Of (Ou (Ou (Of (Pf ?_))))))
        refine Am ?_
        refine Qn (FW_ret (Qblk_ret (Qcut_ret (Qblk_ret (Qseq_ret (Qfn_ret (hR := ?_)))))))
        exact ⟨by rw [hres, hno]; rfl, by rw [hres, hno]; exact Sep_none H133⟩
      rw [if_neg (fun h => hc72 h.2), if_pos (.inr hs2)] at hres
      refine FW_skip (Qblk_normal ?_)
      exact Qcut_normal () ⟨rfl, rfl, rfl, trivial⟩ ⟨hres, H4⟩
    have hs2 : ¬ st = 2 := hc68
    rw [if_neg (fun h => hs2 h.1)] at hres
    refine Sk (Sr (Ve ?_))
    refine Am ?_
    refine Qn (Cp rfl (fun hc205 => ?_) (fun hc205 => ?_))
    · have hs12 : st = 1 ∨ st = 2 := .inl hc205
      rw [if_pos hs12] at hres
      refine FW_exit (Qseq_exit (Qblk_exit_ne rfl (Qseq_exit (Qblk_exit_ne rfl (Qseq_exit (Qblk_exit ?_))))))
      exact Qcut_normal () ⟨rfl, rfl, rfl, trivial⟩ ⟨hres, H4⟩
    rw [if_neg (by omega)] at hres
    refine Sk (FW_exit (Qblk_exit_ne rfl (Qseq_exit (Qblk_exit_ne rfl (Qseq_exit (Qblk_exit_ne rfl (Qcut_exit (Qblk_exit (Qseq_normal ?_)))))))))
    refine Sr (Am ?_)
    refine Qn (FW_ret (Qfn_ret (hR := ?_)))
    exact ⟨by rw [hres]; rfl, by rw [hres]; exact Sep_none H4⟩
  rintro _ τ w212 ⟨hres2, H212⟩
  simp only [upds, like, upd_ds, und_ds]
  refine FW_seq (Sr (Mv ?_))
  refine Vv (Gives.nilCheck rfl) (Vf ?_)
  refine FL_store H212 (h := fun w217 H217 => ?_)
  refine Nx (Mv ?_)
  refine FL_call (cut_ok rest (by omega) (hT _ H217.kept)) rfl rfl (fun v' w220 hv => ?_)
  obtain ⟨⟨b14, rfl⟩, hkk⟩ := hv
  have H220 := H217.keep hkk
  obtain ⟨name, hname⟩ : ∃ name, name = (cutSp rest).1 := ⟨_, rfl⟩
  obtain ⟨text, htext⟩ : ∃ text, text = (cutSp rest).2 := ⟨_, rfl⟩
  have htl : text.length ≤ 1000000 := by have := (cutSp_len rest).2; rw [htext]; omega
  unfold outC at hres2
  rw [← hwd, ← hrest, ← hname, ← htext] at hres2
  rw [← hname, ← htext]
  refine Mv ?_
  refine Vx ?_
  refine Vx ?_
  refine Vx ?_
  refine Am ?_
  refine Am ?_
  refine Am ?_
  refine Nx (Mv ?_)
  refine FL_callN H220 (stepsT_ok text htl (hT _ H220.kept)) (h := fun x w230 _ H230 k229 => ?_)
  obtain ⟨B, cb, rfl, hcb, hB⟩ := Sep.formD H230 At0
  refine Mv ?_
  refine Vx ?_
  refine Vx ?_
  refine Am ?_
  refine Am ?_
  refine Nx (Mv ?_)
  refine Mv ?_
  refine Vv (Gives.nilCheck rfl) (Vf ?_)
  refine Vf ?_
  refine Ld H230 ?_
  refine Mv ?_
  refine Mv ?_
  refine Vv (Gives.build (out := outCells (name, .slice B (parseS text).1.length cb)) (Fills.one rfl rfl rfl (by simp) rfl (Fills.one rfl rfl rfl (by simp) rfl Fills.nil))) (FL_buildSlice H230 (xs := [.tmp 118]) (out := [(name, Value.slice B (parseS text).1.length cb)].flatMap outCells) (Elems.many rfl rfl Elems.nil) rfl rfl rfl (fun bs w246 H246 k245 => ?_))
  refine FL_appendD H246 (news := [(name, Value.slice B (parseS text).1.length cb)]) At3 (by unfold maxLen; simp; omega) (by simp; omega) (outs_one rfl) (h := ?_)
  intro v2 w248 H248
  obtain ⟨A2, c2, rfl, hc2, hA2⟩ := Sep.formD H248 At3
  refine Vv (Gives.nilCheck rfl) (Vf ?_)
  refine Vf ?_
  refine FL_store H248 (h := fun w253 H253 => ?_)
  refine Nx (Mv ?_)
  refine Mv ?_
  refine FL_split (t := 125) rfl (fun hs256 => ?_) (fun hs256 => ?_)
  · have his : (stepsO text).isSome = true := hs256
    refine On (Mv ?_)
    refine On (Vv (Gives.eqlT rfl rfl) (Pt ?_))
    refine Mv ?_
    refine FL_splitP (t := 129) rfl (fun hs262 => ?_) (fun hs262 => ?_)
    · have hwo : wd = outN := hs262
      refine On (Mv ?_)
      refine On (FL_callQ H253 (isName_ok _) (h := fun w266 H266 k265 => ?_))
      refine Pt ?_
      refine Am ?_
      refine Qn (Rs (Qblk_ret (Qseq_ret (Qfn_ret (hR := ?_)))))
      cases hq : isNameS name with
      | false => exact ⟨by rw [hres2, if_neg (fun h => by rw [hq] at h; cases h.2)]; rfl, by rw [hres2, if_neg (fun h => by rw [hq] at h; cases h.2)]; exact Sep_none H266⟩
      | true =>
        have hst2 : stepsO text = some (parseS text).1 := by
          unfold stepsO at his ⊢
          split at his
          · rename_i h1; rw [if_pos h1]
          cases his
        refine ⟨by rw [hres2, if_pos ⟨hwo, hq⟩, hst2]; rfl, ?_⟩
        rw [hres2, if_pos ⟨hwo, hq⟩, hst2]
        have HA := (Sep_rawPush (n := name) (H266.front4.front1)).front3.front3.front3
        exact (Sep_readH (p := ⟨p.wh, p.cols ++ [⟨name, (parseS text).1⟩], p.group⟩) HA).first.turn
    have hwo : ¬ wd = outN := hs262
    refine Of (Of (Pf ?_))
    refine Am ?_
    refine Qn (Rs (Qblk_ret (Qseq_ret (Qfn_ret (hR := ?_)))))
    exact ⟨by rw [hres2, if_neg (fun h => hwo h.1)]; rfl, by rw [hres2, if_neg (fun h => hwo h.1)]; exact Sep_none H253⟩
  have hno : stepsO text = none := by
    cases hq : stepsO text with
    | none => rfl
    | some l => rw [hq] at hs256; exact Bool.noConfusion hs256
  refine Of (Of (Pf ?_))
  refine Mv ?_
  refine Of (Of (Pf ?_))
  refine Am ?_
  refine Qn (Rs (Qblk_ret (Qseq_ret (Qfn_ret (hR := ?_)))))
  exact ⟨by rw [hres2, hno]; split <;> rfl, by rw [hres2, hno]; split <;> exact Sep_none H253⟩
end
end Go.Proofs.YtolaedhdjcnijaaGreatDoor
