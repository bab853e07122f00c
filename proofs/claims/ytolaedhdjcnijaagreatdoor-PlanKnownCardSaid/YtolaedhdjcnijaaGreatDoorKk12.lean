/-
 A plan's text read line by line, told plainly. No program stands here.
-/
import Derived.Test.YtolaedhdjcnijaaGreatDoorKk10
import Derived.Test.YtolaedhdjcnijaaGreatDoorKk11
set_option linter.unusedVariables false
set_option linter.unusedSimpArgs false
namespace Go.Proofs.YtolaedhdjcnijaaGreatDoor
open Go Go.Mw Go.Lib
set_option maxRecDepth 4000
def iN (s : List UInt8) : List UInt8 × List UInt8 := (pE s).getD (s, [])
theorem qh {s : List UInt8} (h : pE s = none) : iN s = (s, []) := by unfold iN; rw [h]; rfl
theorem sV {s a b : List UInt8} (h : pE s = some (a, b)) : iN s = (a, b) := by unfold iN; rw [h]; rfl
def uS : List UInt8 := [119, 104, 101, 114, 101]
def Ey : List UInt8 := [111, 117, 116]
def uT : List UInt8 := [103, 114, 111, 117, 112]
def lF (t : List UInt8) : Option (List bL) := if (bN t).2 = 0 ∧ (bN t).1 ≠ [] then some (bN t).1 else none
def MJ (s : List UInt8) : Option jM := if (iN s).1 = Ey ∧ dG (iN (iN s).2).1 = true then (lF (iN (iN s).2).2).map fun l => ⟨(iN (iN s).2).1, l⟩ else none
def nG (t : List UInt8) : Option Int := if t = iA then some (-1) else (gP t).map fun n : Nat => ((n : Nat) : Int)
def iO (p : cB) (st : Int) (s : List UInt8) : Option (cB × Int) :=
 if st = 0 then (if (iN s).1 = uS then (if (iN s).2 = iA then some (p, 1) else (lF (iN s).2).map fun l => (⟨l, p.cols, p.group⟩, 1)) else none)
 else if st = 2 ∧ (iN s).1 = uT then (nG (iN s).2).map fun g => (⟨p.wh, p.cols, g⟩, 3)
 else if st = 1 ∨ st = 2 then (MJ s).map fun o => (⟨p.wh, p.cols ++ [o], p.group⟩, 2)
 else none
def goG (p : cB) (st : Int) : List (List UInt8) → Option (cB × Int) × Nat
 | [] => (some (p, st), 0)
 | x :: l => match iO p st x with
  | none => (none, 0)
  | some (p', st') => ((goG p' st' l).1, (goG p' st' l).2 + 1)
def qj (l : List (List UInt8)) : Option (cB × Int) := l.foldl (fun o x => o.bind fun r => iO r.1 r.2 x) (some (eF, 0))
theorem CV (l : List (List UInt8)) (x : List UInt8) : qj (l ++ [x]) = (qj l).bind fun r => iO r.1 r.2 x := by
 unfold qj; rw [List.foldl_append]; rfl
theorem Ad : ∀ (l m : List (List UInt8)) (p : cB) (st : Int) (q : cB) (t : Int), goG p st l = (some (q, t), l.length) → goG p st (l ++ m) = ((goG q t m).1, (goG q t m).2 + l.length)
 | [], m, p, st, q, t, h => by
  unfold goG at h
  injection h with h _
  injection h with h
  injection h with h1 h2
  subst h1; subst h2; rfl
 | x :: l, m, p, st, q, t, h => by
  rw [List.cons_append]
  rw [goG] at h ⊢
  cases hl : iO p st x with
  | none => rw [hl] at h; injection h with h; cases h
  | some r =>
   obtain ⟨p', st'⟩ := r
   rw [hl] at h
   dsimp only at h ⊢
   injection h with h1 h2
   rw [List.length_cons] at h2
   rw [Ad l m p' st' q t (Prod.ext h1 (by dsimp only; omega)), List.length_cons]
   exact Prod.ext rfl (by dsimp only; omega)
theorem GZ {α : Type} {l : List α} (h : l ≠ []) : ∃ m x, l = m ++ [x] := ⟨l.dropLast, l.getLast h, (List.dropLast_concat_getLast h).symm⟩
theorem run_go : ∀ (l : List (List UInt8)) {q : cB} {t : Int}, qj l = some (q, t) → goG eF 0 l = (some (q, t), l.length) := by
 intro l
 have key : ∀ n (l : List (List UInt8)), l.length = n → ∀ {q : cB} {t : Int}, qj l = some (q, t) → goG eF 0 l = (some (q, t), l.length) := by
  intro n
  induction n with
  | zero =>
   intro l hl q t h
   have := List.eq_nil_of_length_eq_zero hl
   subst this
   injection h with h
   injection h with h1 h2
   subst h1; subst h2; rfl
  | succ n ih =>
   intro l hl q t h
   obtain ⟨m, x, rfl⟩ : ∃ m x, l = m ++ [x] := GZ (by intro e; rw [e] at hl; cases hl)
   rw [CV] at h
   obtain ⟨⟨p', t'⟩, h1, h2⟩ := Option.bind_eq_some_iff.1 h
   rw [Ad m [x] eF 0 p' t' (ih m (by rw [List.length_append, List.length_singleton] at hl; omega) h1)]
   dsimp only at h2
   unfold goG
   rw [h2]
   dsimp only
   unfold goG
   rw [List.length_append, List.length_singleton]
   exact Prod.ext rfl (by dsimp only; omega)
 exact fun {q t} h => key l.length l rfl h
/-! The words of a line. -/
theorem RU {s a b : List UInt8} (h : pE s = some (a, b)) : s = a ++ [32] ++ b := by
 unfold pE at h
 obtain ⟨i, hi, h⟩ := Option.map_eq_some_iff.1 h
 injection h with h1 h2
 subst h1; subst h2
 rw [List.idxOf?, List.findIdx?_eq_some_iff_getElem] at hi
 obtain ⟨bU, Ww, _⟩ := hi
 have e : s[i] = 32 := by simpa using Ww
 conv => lhs; rw [← List.take_append_drop i s, List.drop_eq_getElem_cons bU, e]
 simp
theorem RV {s : List UInt8} (h : pE s = none) : ∀ c ∈ s, c ≠ 32 := by
 unfold pE at h
 rw [Option.map_eq_none_iff, List.idxOf?, List.findIdx?_eq_none_iff] at h
 intro c hc e
 have := h c hc
 rw [e] at this
 simp at this
theorem Ae {w s : List UInt8} (hw : ∀ c ∈ w, c ≠ 32) : jg (w ++ [32]) s = (pE s).bind fun x => if x.1 = w then some x.2 else none := by
 cases hc : pE s with
 | none =>
  cases ha : jg (w ++ [32]) s with
  | none => rfl
  | some t =>
   have := Kl ha
   exact absurd rfl (RV hc 32 (by rw [this]; simp))
 | some x =>
  obtain ⟨a, b⟩ := x
  show _ = if a = w then some b else none
  by_cases e : a = w
  ·rw [if_pos e, RU hc, e, sQ]
  rw [if_neg e]
  cases ha : jg (w ++ [32]) s with
  | none => rfl
  | some t =>
   have h1 := Kl ha
   rw [h1, Km hw] at hc
   injection hc with hc
   injection hc with hc _
   exact absurd hc.symm e
theorem PI : bN [] = ([], 0) := by rw [← EZ]; decide +kernel
theorem vW : lF [] = none := by unfold lF; rw [PI]; simp
theorem CW : ([] : List UInt8) ≠ iA := by unfold iA; simp
theorem MK {p : cB} {s : List UInt8} (h : p.wh = []) : iO p 0 s = (lN s).map fun l => (⟨l, p.cols, p.group⟩, 1) := by
 have e : uM = uS ++ [32] := rfl
 unfold iO lN
 rw [if_pos rfl, e, Ae (by decide)]
 cases hc : pE s with
 | none =>
  rw [qh hc]
  show (if s = uS then (if ([] : List UInt8) = iA then _ else _) else none) = _
  rw [if_neg CW, vW]
  split <;> rfl
 | some x =>
  obtain ⟨a, b⟩ := x
  rw [sV hc]
  dsimp only
  show (if a = uS then (if b = iA then _ else _) else none) = Option.map _ (((if a = uS then some b else none)).bind _)
  by_cases e1 : a = uS
  ·rw [if_pos e1, if_pos e1]
   show _ = Option.map _ (if b = [] then none else if b = iA then some [] else if (bN b).2 = 0 then some (bN b).1 else none)
   by_cases e2 : b = []
   ·rw [if_pos e2, e2, if_neg CW, vW, Option.map_none]
   rw [if_neg e2]
   by_cases e3 : b = iA
   ·rw [if_pos e3, if_pos e3]
    show some (p, (1 : Int)) = some (⟨[], p.cols, p.group⟩, 1)
    rw [← h]
   rw [if_neg e3, if_neg e3]
   unfold lF
   by_cases e4 : (bN b).2 = 0
   ·rw [if_pos e4, if_pos ⟨e4, MH e4 e2⟩]
   rw [if_neg e4, if_neg fun h => e4 h.1, Option.map_none]
  rw [if_neg e1, if_neg e1]; rfl
theorem G5 (s : List UInt8) : MJ s = qd s := by
 have e : BM = Ey ++ [32] := rfl
 unfold MJ qd
 rw [e, Ae (by decide)]
 cases hc : pE s with
 | none =>
  rw [qh hc]
  dsimp only
  rw [qh (s := []) rfl]
  dsimp only
  rw [vW]
  show (if s = Ey ∧ dG [] = true then none else none) = none
  split <;> rfl
 | some x =>
  obtain ⟨a, b⟩ := x
  rw [sV hc]
  dsimp only
  show _ = ((if a = Ey then some b else none)).bind _
  by_cases e1 : a = Ey
  ·rw [if_pos e1]
   show _ = (pE b).bind _
   cases hb : pE b with
   | none =>
    rw [qh hb]
    dsimp only
    rw [vW]
    show (if a = Ey ∧ dG b = true then none else none) = none
    split <;> rfl
   | some y =>
    obtain ⟨n, t⟩ := y
    rw [sV hb]
    show (if a = Ey ∧ dG n = true then Option.map _ (lF t) else none) = if (bN t).2 = 0 ∧ (bN t).1 ≠ [] ∧ dG n = true then some (⟨n, (bN t).1⟩ : jM) else none
    unfold lF
    by_cases e2 : dG n = true
    ·rw [if_pos ⟨e1, e2⟩]
     by_cases e3 : (bN t).2 = 0 ∧ (bN t).1 ≠ []
     ·rw [if_pos e3, if_pos ⟨e3.1, e3.2, e2⟩]; rfl
     rw [if_neg e3, if_neg fun h => e3 ⟨h.1, h.2.1⟩]; rfl
    rw [if_neg fun h => e2 h.2, if_neg fun h => e2 h.2.2]
  rw [if_neg fun h => e1 h.1, if_neg e1]; rfl
theorem PK : nG [] = none := by
 unfold nG gP
 rw [if_neg CW]
 have : decDigits 0 ≠ ([] : List UInt8) := jy 0
 show Option.map _ (if decDigits 0 = [] ∧ _ then _ else none) = none
 rw [if_neg fun h => this h.1]; rfl
theorem PL (s : List UInt8) : (if (iN s).1 = uT then nG (iN s).2 else none) = jY s := by
 have e : sP = uT ++ [32] := rfl
 unfold jY
 rw [e, Ae (by decide)]
 cases hc : pE s with
 | none =>
  rw [qh hc]
  dsimp only
  rw [PK]
  show (if s = uT then none else none) = none
  split <;> rfl
 | some x =>
  obtain ⟨a, b⟩ := x
  rw [sV hc]
  show (if a = uT then nG b else none) = ((if a = uT then some b else none)).bind _
  by_cases e1 : a = uT
  ·rw [if_pos e1, if_pos e1]; rfl
  rw [if_neg e1, if_neg e1]; rfl
theorem RX {p : cB} {st : Int} {s : List UInt8} {o : jM} (dJ : st = 1 ∨ st = 2) (h : qd s = some o) : iO p st s = some (⟨p.wh, p.cols ++ [o], p.group⟩, 2) := by
 have h' := h
 rw [← G5] at h
 have hw : (iN s).1 = Ey := by
  unfold MJ at h
  split at h
  ·rename_i e; exact e.1
  cases h
 unfold iO
 rw [if_neg (by omega), if_neg (fun h1 => absurd (hw.symm.trans h1.2) (by decide)), if_pos dJ, h]; rfl
theorem ML {p : cB} {s : List UInt8} (h : qd s = none) : iO p 1 s = none := by
 unfold iO
 rw [if_neg (by decide), if_neg (fun h => absurd h.1 (by decide)), if_pos (.inl rfl), G5, h]; rfl
theorem PN {p : cB} {s : List UInt8} (h : qd s = none) : iO p 2 s = (jY s).map fun g => (⟨p.wh, p.cols, g⟩, 3) := by
 unfold iO
 rw [if_neg (by decide), ← PL]
 by_cases e : (iN s).1 = uT
 ·rw [if_pos ⟨rfl, e⟩, if_pos e]
 rw [if_neg fun h => e h.2, if_pos (.inr rfl), G5, h, if_neg e]; rfl
theorem PO {p : cB} {s : List UInt8} : iO p 3 s = none := by
 unfold iO
 rw [if_neg (by decide), if_neg (fun h => absurd h.1 (by decide)), if_neg (by decide)]
theorem OB : ∀ (l : List (List UInt8)) (p : cB) (st : Int), st = 1 ∨ st = 2 → goG p st l =
    if l.length ≤ (gW l).length then (some (⟨p.wh, p.cols ++ gW l, p.group⟩, if (gW l).length = 0 then st else 2), (gW l).length)
    else if st = 1 ∧ (gW l).length = 0 then (none, 0)
    else match jY (l.getD (gW l).length []) with
      | none => (none, (gW l).length)
      | some g => if l.length = (gW l).length + 1 then (some (⟨p.wh, p.cols ++ gW l, g⟩, 3), (gW l).length + 1) else (none, (gW l).length + 1)
  | [], p, st, _ => by
    unfold goG gW
    simp
  | x :: l, p, st, dJ => by
    cases ho : qd x with
    | some o =>
      have hc : gW (x :: l) = o :: gW l := by rw [gW, ho]
      rw [goG, RX dJ ho, hc]
      dsimp only
      rw [OB l _ 2 (.inr rfl)]
      simp only [List.length_cons, Nat.add_le_add_iff_right, List.getD_cons_succ, Nat.add_right_cancel_iff]
      rw [if_neg (show ¬ ((gW l).length + 1 = 0) by omega), if_neg (show ¬ (st = 1 ∧ (gW l).length + 1 = 0) by omega), if_neg (show ¬ ((2 : Int) = 1 ∧ (gW l).length = 0) by omega)]
      split
      · simp
      cases jY (l.getD (gW l).length []) with
      | none => rfl
      | some g => dsimp only; split <;> simp
    | none =>
      have hc : gW (x :: l) = [] := by rw [gW, ho]
      rw [goG, hc]
      simp only [List.length_cons, List.length_nil, List.getD_cons_zero]
      rw [if_neg (by omega)]
      rcases dJ with rfl | rfl
      · rw [ML ho, if_pos (by simp)]
      rw [PN ho, if_neg (by decide)]
      cases jY x with
      | none => rfl
      | some g =>
        show ((goG _ 3 l).1, (goG _ 3 l).2 + 1) = if l.length + 1 = 0 + 1 then _ else _
        cases l with
        | nil => simp [goG]
        | cons y l => rw [goG, PO, if_neg (by simp)]
theorem CX {s : List UInt8} (hs : s.length ≤ 1048576) : dX s = match goG eF 0 (if (dU s).2 = true then (dU s).1 else (dU s).1.dropLast) with
    | (none, n) => (eF, (n : Int), 4)
    | (some r, n) => if (dU s).2 = false ∨ r.2 ≠ 3 then (eF, (n : Int), 4) else if qY r.1 = false then (eF, 0, 2) else (r.1, 0, 0) := by
  obtain ⟨ls, whole, hl⟩ : ∃ ls whole, dU s = (ls, whole) := ⟨_, _, rfl⟩
  have hdl : ls.dropLast = ls.take (ls.length - 1) := List.dropLast_eq_take
  unfold dX
  rw [if_neg (by omega), hl]
  dsimp only
  obtain ⟨many, hm⟩ : ∃ many, many = if whole = true then ls.length else ls.length - 1 := ⟨_, rfl⟩
  have Yg : many ≤ ls.length := by rw [hm]; split <;> omega
  have Ca : (if whole = true then ls else ls.dropLast) = ls.take many := by
    rw [hm]
    split
    · rw [List.take_length]
    exact hdl
  rw [← hm, Ca]
  by_cases h0 : many < 1
  · rw [if_pos h0, show many = 0 by omega, List.take_zero]
    unfold goG
    dsimp only
    rw [if_pos (.inr (by decide))]
    rfl
  rw [if_neg h0]
  cases ls with
  | nil => simp at Yg; omega
  | cons x l =>
    obtain ⟨m, rfl⟩ : ∃ m, many = m + 1 := ⟨many - 1, by omega⟩
    rw [List.take_succ_cons, List.getD_cons_zero, goG, MK rfl, List.drop_one, List.tail_cons]
    cases hw : lN x with
    | none => rfl
    | some wv =>
      dsimp only [Option.map]
      rw [OB _ _ 1 (.inl rfl)]
      have yV : (l.take m).length = m := by rw [List.length_take]; rw [List.length_cons] at Yg; omega
      obtain ⟨cs, oK⟩ : ∃ cs, cs = gW (l.take m) := ⟨_, rfl⟩
      rw [← oK, yV]
      by_cases h1 : m ≤ cs.length
      · rw [if_pos h1, if_pos (.inl (by omega))]
        dsimp only
        rw [if_pos (.inr (by split <;> decide)), Nat.add_comm]
      rw [if_neg h1]
      by_cases h2 : cs.length = 0
      · rw [if_pos (.inr h2), if_pos ⟨rfl, h2⟩, h2]
      rw [if_neg (by omega), if_neg (fun h => h2 h.2)]
      have hgd : (x :: l).getD (1 + cs.length) [] = (l.take m).getD cs.length [] := by
        rw [Nat.add_comm, List.getD_cons_succ, List.getD_eq_getElem?_getD, List.getD_eq_getElem?_getD, List.getElem?_take, if_pos (by omega)]
      rw [hgd]
      cases jY ((l.take m).getD cs.length []) with
      | none => dsimp only; rw [Nat.add_comm]
      | some g =>
        dsimp only
        by_cases h3 : m = cs.length + 1
        · rw [if_pos h3]
          dsimp only
          show (if 1 + cs.length + 1 < l.length + 1 then _ else _) = if whole = false ∨ ¬ ((3 : Int) = 3) then _ else _
          cases whole with
          | true =>
            rw [if_pos rfl, List.length_cons] at hm
            rw [if_neg (by omega), if_neg (show ¬ (true = false ∨ ¬ (3 : Int) = 3) by simp)]
            rfl
          | false =>
            rw [if_neg (by decide), List.length_cons] at hm
            rw [if_pos (by omega), if_pos (.inl rfl), Nat.add_comm 1]
        rw [if_neg h3]
        dsimp only
        rw [if_pos (by rw [List.length_cons]; rw [List.length_cons] at Yg; omega), Nat.add_comm 1]
theorem MN {s : List UInt8} {p : cB} {st : Int} (hs : s.length ≤ 1048576) (hw : (dU s).2 = true) (h : qj (dU s).1 = some (p, st)) :
    dX s = if st ≠ 3 then (eF, ((dU s).1.length : Int), 4) else if qY p = false then (eF, 0, 2) else (p, 0, 0) := by
  rw [CX hs, if_pos hw, run_go _ h]
  dsimp only
  rw [hw]
  by_cases e : st = 3
  · rw [if_neg (show ¬ (true = false ∨ st ≠ 3) by simp [e]), if_neg (show ¬ st ≠ 3 from fun h => h e)]
  rw [if_pos (.inr e), if_pos e]
theorem MO {s : List UInt8} {p : cB} {st : Int} {pre l : List (List UInt8)} {x : List UInt8} (hs : s.length ≤ 1048576) (hl : (if (dU s).2 = true then (dU s).1 else (dU s).1.dropLast) = pre ++ x :: l) (h : qj pre = some (p, st)) (hx : iO p st x = none) :
    dX s = (eF, (pre.length : Int), 4) := by
  rw [CX hs, hl, Ad pre _ _ _ _ _ (run_go _ h), goG, hx]
  dsimp only
  rw [Nat.zero_add]
theorem MP {s : List UInt8} {p : cB} {st : Int} (hs : s.length ≤ 1048576) (hw : (dU s).2 = false) (h : qj (dU s).1.dropLast = some (p, st)) :
    dX s = (eF, ((dU s).1.dropLast.length : Int), 4) := by
  rw [CX hs, hw, if_neg (by decide), run_go _ h]
  dsimp only
  rw [if_pos (.inl rfl)]
theorem ou {t : List UInt8} {n : Int} : (atoiAll t = .ok n ∧ 0 ≤ n ∧ itoa n = t ∧ n ≤ 1048576) ↔ (gP t).map (fun n : Nat => ((n : Nat) : Int)) = some n := by
 constructor
 ·rintro ⟨_, h0, h1, h2⟩
  unfold itoa at h1
  rw [if_neg (by omega)] at h1
  unfold gP
  rw [← h1, mX]
  show Option.map _ (if decDigits n.toNat = decDigits n.toNat ∧ n.toNat ≤ 1048576 then some n.toNat else none) = _
  rw [if_pos ⟨rfl, by omega⟩]
  show some ((n.toNat : Nat) : Int) = some n
  rw [Int.toNat_of_nonneg h0]
 intro h
 obtain ⟨m, h1, rfl⟩ := Option.map_eq_some_iff.1 h
 unfold gP at h1
 obtain ⟨k, hk, h1⟩ := Option.bind_eq_some_iff.1 h1
 split at h1
 ·rename_i e
  injection h1 with h1
  subst h1
  refine ⟨?_, by omega, by unfold itoa; rw [if_neg (by omega), Int.toNat_natCast]; exact e.1, by omega⟩
  rw [← e.1]
  have fM := jy k
  have abq := mJ k
  cases hd : decDigits k with
  | nil => exact absurd hd fM
  | cons c r =>
   have hc := abq c (by rw [hd]; simp)
   unfold jQ at hc
   simp only [decide_eq_true_eq, Bool.and_eq_true] at hc
   have hm : parseMag (decDigits k) = .ok k := by
    rw [parseMag, if_neg fM, tC _ 0 k (mX k) (by omega)]
   rw [hd] at hm
   unfold atoiAll
   dsimp only
   rw [if_neg (by omega), hm]
   dsimp only
   rw [if_neg (by omega), if_neg (by omega), if_neg (by omega)]
 cases h1
theorem Fq {l m : List UInt8} (h : 0 < l.length) : (l ++ m).getD 0 0 = l.getD 0 0 := by
 cases l with
 | nil => exact absurd h (by decide)
 | cons a l => rfl
theorem RY : ∀ (n : Nat), 0 < n → (decDigits n).getD 0 0 ≠ 48 := by
 intro n
 induction n using Nat.strongRecOn with
 | _ n ih =>
 intro h
 by_cases bU : n < 10
 ·rw [decDigits_one bU]
  show UInt8.ofNat (48 + n) ≠ 48
  intro e
  have := congrArg UInt8.toNat e
  simp only [UInt8.toNat_ofNat'] at this
  have h48 : (48 : UInt8).toNat = 48 := rfl
  omega
 rw [decDigits, dif_neg bU, Fq (List.length_pos_iff.2 (jy _))]
 exact ih (n / 10) (by omega) (by omega)
theorem Fu : ∀ (k : Nat) (s : List UInt8) (n : Nat), s.length = k → dB s 0 = some n → s ≠ [] → (s.length = 1 ∨ s.getD 0 0 ≠ 48) → decDigits n = s
 | 0, s, n, hk, _, fM, _ => absurd (List.eq_nil_of_length_eq_zero hk) fM
 | k + 1, s, n, hk, h, fM, hl => by
  obtain ⟨m, x, rfl⟩ := GZ fM
  rw [vg] at h
  obtain ⟨a, ha, hx⟩ := Option.bind_eq_some_iff.1 h
  simp only [dB] at hx
  split at hx
  ·rename_i hd
   injection hx with hx
   have YF : 48 ≤ x.toNat ∧ x.toNat ≤ 57 := of_decide_eq_true hd
   by_cases hm : m = []
   ·subst hm
    simp only [dB] at ha
    injection ha with ha
    subst ha
    rw [decDigits_one (by omega)]
    show [_] = [x]
    rw [← UInt8.toNat_inj.1 (show (UInt8.ofNat (48 + n)).toNat = x.toNat by simp only [UInt8.toNat_ofNat']; omega)]
   have hm1 : 0 < m.length := List.length_pos_iff.2 hm
   have hlen : (m ++ [x]).length = m.length + 1 := by simp
   have UR : m.getD 0 0 ≠ 48 := by
    rcases hl with e | e
    ·omega
    rw [Fq hm1] at e; exact e
   have Cm := Fu k m a (by omega) ha hm (.inr UR)
   have ha0 : 0 < a := by
    rcases Nat.eq_zero_or_pos a with e | e
    ·rw [e] at Cm
     rw [← Cm] at UR
     exact absurd (by rw [decDigits_one (by decide)]; rfl) UR
    exact e
   rw [decDigits, dif_neg (by omega), show n / 10 = a by omega, Cm, show n % 10 = x.toNat - 48 by omega]
   rw [UInt8.toNat_inj.1 (show (UInt8.ofNat (48 + (x.toNat - 48))).toNat = x.toNat by simp only [UInt8.toNat_ofNat']; omega)]
  cases hx
theorem pQ (s : List UInt8) : gP s = match dB s 0 with | none => none | some n => if decDigits n = s ∧ n ≤ 1048576 then some n else none := by
 unfold gP
 cases dB s 0 <;> rfl
theorem Kt {s : List UInt8} (h : s.length < 1) : gP s = none := by
 rw [List.eq_nil_of_length_eq_zero (by omega : s.length = 0), pQ]
 show (if decDigits 0 = [] ∧ 0 ≤ 1048576 then some 0 else none) = none
 rw [if_neg fun h => jy 0 h.1]
theorem MQ {s : List UInt8} (h1 : 1 < s.length) (h : s.getD 0 0 = 48) : gP s = none := by
 rw [pQ]
 cases hd : dB s 0 with
 | none => rfl
 | some n =>
  dsimp only
  rw [if_neg]
  intro ⟨e, _⟩
  rcases Nat.eq_zero_or_pos n with e0 | e0
  ·rw [e0, decDigits_one (by decide)] at e
   rw [← e] at h1
   exact absurd h1 (by decide)
  have := RY n e0
  rw [e] at this
  exact this h
theorem MR {s : List UInt8} {i acc : Nat} (dJ : dB (s.drop i) acc = dB s 0) (h : 1048576 < acc) : gP s = none := by
 rw [pQ]
 cases hd : dB s 0 with
 | none => rfl
 | some n =>
  rw [hd] at dJ
  have := yH _ _ _ dJ
  dsimp only
  rw [if_neg fun h => by omega]
theorem OC : ∀ {a b : List UInt8}, (∀ c ∈ a, c ≠ 32) → (a ++ 32 :: b).idxOf? 32 = some a.length
 | [], b, _ => by rw [List.nil_append, List.idxOf?_cons]; rfl
 | x :: a, b, h => by
  rw [List.cons_append, List.idxOf?_cons, OC fun c hc => h c (List.mem_cons_of_mem _ hc)]
  have hx : (x == 32) = false := beq_eq_false_iff_ne.2 (h x List.mem_cons_self)
  rw [hx]
  rfl
theorem XB {t : List UInt8} {i : Nat} (h : ∀ c ∈ t.take i, c ≠ 32) (hi : t[i]? = some 32) : pE t = some (t.take i, t.drop (i + 1)) := by
 have bU := (List.getElem?_eq_some_iff.1 hi).1
 have e : t = t.take i ++ 32 :: t.drop (i + 1) := by
  have h1 := List.drop_eq_getElem_cons bU
  rw [(List.getElem?_eq_some_iff.1 hi).2] at h1
  rw [← h1, List.take_append_drop]
 have h2 := OC (b := t.drop (i + 1)) h
 rw [← e, List.length_take, Nat.min_eq_left (by omega)] at h2
 unfold pE
 rw [h2]
 rfl
theorem U8 {t : List UInt8} (h : ∀ c ∈ t, c ≠ 32) : pE t = none := by
 unfold pE
 rw [List.idxOf?_eq_none_iff.2 fun hm => h 32 hm rfl]
 rfl
theorem drop_at {s : List UInt8} {f i : Nat} {c : UInt8} (hf : f ≤ i) (hc : s[i]? = some c) : s.drop f = (s.take i).drop f ++ c :: s.drop (i + 1) := by
 have bU := (List.getElem?_eq_some_iff.1 hc).1
 have h1 := List.drop_eq_getElem_cons bU
 rw [(List.getElem?_eq_some_iff.1 hc).2] at h1
 rw [← h1]
 conv => lhs; rw [← List.take_append_drop i s]
 rw [List.drop_append_of_le_length (by rw [List.length_take]; omega)]
theorem MS {s : List UInt8} {f i : Nat} {c : UInt8} (hf : f ≤ i) (hc : s[i]? = some c) : (s.take (i + 1)).drop f = (s.take i).drop f ++ [c] := by
 have bU := (List.getElem?_eq_some_iff.1 hc).1
 rw [List.take_add_one, hc, Option.toList_some, List.drop_append_of_le_length (by rw [List.length_take]; omega)]
section
variable {w : World}
theorem Ku (s : List UInt8) (hl : s.length ≤ 1000000) : bF Tryz.prog 96 [str s, I 1048576] w fun v w' => v = I (match gP s with | some n => ((n : Nat) : Int) | none => -1) ∧ Kept noB w w' := by
 have H := Sep.bB w
 refine eU Tryz.func96 rfl rfl rfl rfl ?_
 refine Sr (Am ?_)
 refine Qn (fO (fun _ : Unit => [(0, str s), (1, I 1048576)]) (fun _ w' => (1 ≤ s.length ∧ (s.length = 1 ∨ s.getD 0 0 ≠ 48)) ∧ Sep w noB [] w') ?_ ?_)
 ·refine Sr (Mv ?_)
  refine Vt ?_
  refine Vl ?_
  refine Mv ?_
  refine aG (t := 10) rfl (fun hs7 => ?_) (fun hs7 => ?_)
  ·have ay := Kt (s := s) (by omega)
   refine Of (Of (Of (Of (Ou (Ou (Ou (Of (Pt ?_))))))))
   refine Qn (aQ rfl ?_)
   refine Sr (Am ?_)
   refine Qn (aM (gH (ak (hR := ?_))))
   exact ⟨by rw [ay]; rfl, H.kept⟩
  refine On (Mv ?_)
  refine On (Vt ?_)
  refine On (Vg ?_)
  refine On (Mv ?_)
  refine aG (t := 14) rfl (fun Sa => ?_) (fun Sa => ?_)
  ·refine On (Mv ?_)
   refine On (Vv (Gives.fF (i := 0) rfl rfl (by omega)) (On ?_))
   refine Ve ?_
   refine On (Pt ?_)
   refine Pf ?_
   refine Qn (Cp rfl (fun Ia => ?_) (fun Ia => ?_))
   ·have ay := MQ (s := s) (by omega) (UInt8.toNat_inj.1 (show (s.getD 0 0).toNat = 48 by omega))
    refine Sr (Am ?_)
    refine Qn (aM (gH (ak (hR := ?_))))
    exact ⟨by rw [ay]; rfl, H.kept⟩
   have L9 : s.length = 1 ∨ s.getD 0 0 ≠ 48 := .inr fun e => Ia (by rw [e]; rfl)
   refine aY ?_
   exact aS () ⟨rfl, rfl, trivial⟩ ⟨⟨by omega, L9⟩, H⟩
  have L9 : s.length = 1 ∨ s.getD 0 0 ≠ 48 := .inl (by omega)
  refine Of (Of (Of (On (Pf ?_))))
  refine Pf ?_
  refine Qn (bg rfl ?_)
  refine aY ?_
  exact aS () ⟨rfl, rfl, trivial⟩ ⟨⟨by omega, L9⟩, H⟩
 rintro _ τ wa ⟨⟨h1, L9⟩, Ha⟩
 simp only [cZ, like, bC, bZ]
 refine Sr (Am ?_)
 refine Qn (au (Sr (Am ?_)))
 refine Qn (aF (bA (fun x : Nat × Nat => [(0, str s), (1, I 1048576), (5, I x.2), (6, I x.1)]) (fun x w' => (x.1 ≤ s.length ∧ x.2 ≤ 1048576 ∧ dB (s.drop x.1) x.2 = dB s 0) ∧ Sep w noB [] w') (fun x _ => s.length - x.1) (0, 0) ⟨rfl, rfl, rfl, rfl, trivial⟩ ⟨⟨Nat.zero_le _, by decide, rfl⟩, Ha⟩ (fun x τ wb hI => ?_)))
 obtain ⟨i, acc⟩ := x
 obtain ⟨⟨hi, Ri, dJ⟩, Hb⟩ := hI
 dsimp only at hi Ri dJ
 try simp only [cZ, like, bC]
 refine au (Sr (Mv ?_))
 refine Mv ?_
 refine Vt ?_
 refine Vl ?_
 refine Qn (Cp rfl (fun Ib => ?_) (fun Ib => ?_))
 ·have bU : i < s.length := by omega
  obtain ⟨c, hc⟩ : ∃ c, c = s.getD i 0 := ⟨_, rfl⟩
  have EO := c.toNat_lt
  have adE := dJ
  rw [drop_cons bU, ← hc, dB] at dJ
  refine Sk (au (aF (au (Sr (Mv ?_)))))
  refine Mv ?_
  refine Vv (Gives.fF rfl rfl bU) ?_
  rw [← hc]
  refine Vl ?_
  refine Mv ?_
  refine aG (t := 30) rfl (fun Sb => ?_) (fun Sb => ?_)
  ·have hd : ¬ jQ c = true := fun h => by have := of_decide_eq_true h; omega
   rw [if_neg hd] at dJ
   have ay : gP s = none := by rw [pQ, ← dJ]
   refine Of (Of (Of (Of (Pt ?_))))
   refine Mv ?_
   refine Of (Of (Of (Of (Of (Of (Of (Of (Of (Of (Pt ?_))))))))))
   refine Qn (aQ rfl ?_)
   refine Sr (Am ?_)
   refine Qn (Rs (aH (aL (aR (aH (aL (ak (hR := ?_))))))))
   exact ⟨by rw [ay]; rfl, Hb.kept⟩
  refine On (Mv ?_)
  refine On (Mv ?_)
  refine On (Vv (Gives.fF rfl rfl bU) ?_)
  rw [← hc]
  refine On (Vg ?_)
  refine Pf ?_
  refine Mv ?_
  refine aG (t := 36) rfl (fun Sc => ?_) (fun Sc => ?_)
  ·have hd : ¬ jQ c = true := fun h => by have := of_decide_eq_true h; omega
   rw [if_neg hd] at dJ
   have ay : gP s = none := by rw [pQ, ← dJ]
   refine Of (Of (Of (Of (Of (Of (Of (Of (Of (Of (Pt ?_))))))))))
   refine Qn (aQ rfl ?_)
   refine Sr (Am ?_)
   refine Qn (Rs (aH (aL (aR (aH (aL (ak (hR := ?_))))))))
   exact ⟨by rw [ay]; rfl, Hb.kept⟩
  have hd : jQ c = true := decide_eq_true (by omega)
  rw [if_pos hd] at dJ
  have aad : dB (s.drop (i + 1)) (10 * acc + (c.toNat - 48)) = dB s 0 := dJ
  refine On (Mv ?_)
  refine On (Mv ?_)
  refine On (Mv ?_)
  refine On (Mv ?_)
  refine On (Vv (Gives.fF rfl rfl bU) ?_)
  rw [← hc]
  refine On (Vv (Gives.Qo (c := ((c.toNat - 48 : Nat) : Int)) rfl rfl (by rw [Br (by omega)]; omega)) ?_)
  refine On (Vv (Gives.jd (k := .i64) (c := ((c.toNat - 48 : Nat) : Int)) rfl (wrap64 (by omega))) (On ?_))
  refine Vv (Gives.yh (c := ((1048576 - (c.toNat - 48) : Nat) : Int)) rfl rfl (by omega) (by omega)) (On ?_)
  refine Vv (Gives.xO (b := 10) rfl rfl (by omega) (by omega)) (On ?_)
  refine Vg ?_
  refine Pf ?_
  refine Qn (Cp rfl (fun Ic => ?_) (fun Ic => ?_))
  ·have ay := MR aad (by omega)
   refine Sr (Am ?_)
   refine Qn (Rs (aH (aL (aR (aH (aL (ak (hR := ?_))))))))
   exact ⟨by rw [ay]; rfl, Hb.kept⟩
  refine Sk (aB (Mv ?_))
  refine Vv (Gives.Rp (c := ((10 * acc : Nat) : Int)) rfl rfl (by omega) (by omega)) (Mv ?_)
  refine Mv ?_
  refine Vv (Gives.fF rfl rfl bU) ?_
  rw [← hc]
  refine Vv (Gives.Qo (c := ((c.toNat - 48 : Nat) : Int)) rfl rfl (by rw [Br (by omega)]; omega)) ?_
  refine Vv (Gives.jd (k := .i64) (c := ((c.toNat - 48 : Nat) : Int)) rfl (wrap64 (by omega))) (Vv (Gives.bM (c := ((10 * acc + (c.toNat - 48) : Nat) : Int)) rfl rfl (by omega) (by omega)) ?_)
  refine Am ?_
  refine aP (aA (aj (aB (Mv ?_))))
  refine Vv (Gives.bM rfl rfl rfl (by omega)) (Am ?_)
  refine aP ?_
  exact aC (i + 1, 10 * acc + (c.toNat - 48)) ⟨rfl, rfl, rfl, rfl, trivial⟩ ⟨⟨by dsimp only; omega, by dsimp only; omega, aad⟩, Hb⟩ (by dsimp only; omega)
 have jW : i = s.length := by omega
 rw [jW, List.drop_length, dB] at dJ
 have abt := Fu s.length s acc rfl dJ.symm (fun e => by rw [e] at h1; exact absurd h1 (by decide)) L9
 have ay : gP s = some acc := by rw [pQ, ← dJ]; exact if_pos ⟨abt, Ri⟩
 refine bq (aT (aO (aV (aj (Sr (Mv ?_))))))
 refine Am ?_
 refine Qn (aM (ak (hR := ?_)))
 exact ⟨by rw [ay]; rfl, Hb.kept⟩
theorem yA (s b : List UInt8) : bF Tryz.prog 94 [str s, str b] w fun v w' => v = .tuple #[str ((jg b s).getD []), .bool (jg b s).isSome] ∧ Kept noB w w' := by
 have H := Sep.bB w
 refine eU Tryz.func94 rfl rfl rfl rfl ?_
 refine Sr (Am ?_)
 refine Am ?_
 refine Qn (au (Sr (Mv ?_)))
 refine Vt ?_
 refine Mv ?_
 refine Vt ?_
 refine Vl ?_
 refine Mv ?_
 refine aG (t := 11) rfl (fun EN => ?_) (fun EN => ?_)
 ·have ay : jg b s = none := if_neg fun e => by have := congrArg List.length e; rw [List.length_take] at this; omega
  refine Of (Of (Of (Of (Of (Of (Pt ?_))))))
  refine Qn (aQ rfl ?_)
  refine Sr (Am ?_)
  refine Am ?_
  refine Qn (Rs (ak (hR := ?_)))
  exact ⟨by rw [ay]; rfl, H.kept⟩
 refine On (Mv ?_)
 refine On (Mv ?_)
 refine On (Vt ?_)
 refine On (Vv (Gives.lq rfl rfl (by omega)) (On ?_))
 refine Mv ?_
 refine On (Vv (Gives.EA rfl rfl) (Pf ?_))
 refine Qn (Cp rfl (fun Ia => ?_) (fun Ia => ?_))
 ·have ay : jg b s = none := if_neg Ia
  refine Sr (Am ?_)
  refine Am ?_
  refine Qn (Rs (ak (hR := ?_)))
  exact ⟨by rw [ay]; rfl, H.kept⟩
 have ay : jg b s = some (s.drop b.length) := if_pos (Classical.not_not.1 Ia)
 refine Sk (Sr (Mv ?_))
 refine Mv ?_
 refine Vt ?_
 refine Vv (Gives.dW rfl rfl (by omega)) (Am ?_)
 refine Am ?_
 refine Qn (aM (ak (hR := ?_)))
 exact ⟨by rw [ay]; rfl, H.kept⟩
theorem MU (s : List UInt8) (hl : s.length ≤ 1000000) : bF Tryz.prog 49 [str s] w fun v w' => (∃ n, v = .tuple #[I n, .bool (jY s).isSome] ∧ ∀ g, jY s = some g → n = g) ∧ Kept noB w w' := by
  have H := Sep.bB w
  obtain ⟨ah, O9⟩ : ∃ ah, ah = jg sP s := ⟨_, rfl⟩
  obtain ⟨t, ht⟩ : ∃ t, t = ah.getD [] := ⟨_, rfl⟩
  have zV : t.length ≤ 1000000 := by
    rw [ht, O9]
    unfold jg
    split
    · show (s.drop _).length ≤ _; rw [List.length_drop]; omega
    exact Nat.zero_le _
  have vQ : ah.isSome = true → jY s = if t = iA then some (-1) else (gP t).map fun n : Nat => ((n : Nat) : Int) := fun h => by
    obtain ⟨u, hu⟩ := Option.isSome_iff_exists.1 h
    unfold jY
    rw [← O9, hu, Option.bind_some, ht, hu]
    rfl
  have qV : ah.isSome = false → jY s = none := fun h => by
    rw [Option.isSome_eq_false_iff, Option.isNone_iff_eq_none] at h
    unfold jY
    rw [← O9, h]
    rfl
  have ht0 : ah.isSome = false → t = [] := fun h => by
    rw [Option.isSome_eq_false_iff, Option.isNone_iff_eq_none] at h
    rw [ht, h]
    rfl
  refine dP Tryz.func49 rfl rfl rfl rfl ?_
  refine Sr (Am ?_)
  refine Am ?_
  refine Nx (Mv ?_)
  refine aN H (yA s sP) (h := fun w5 H5 k4 => ?_)
  rw [← O9, ← ht]
  refine Mv ?_
  refine Vx ?_
  refine Vx ?_
  refine Am ?_
  refine Am ?_
  refine Qn (au (Sr (Mv ?_)))
  refine Vv (Gives.iD rfl rfl) (Qn ?_)
  refine Cp rfl (fun Ia => ?_) (fun Ia => ?_)
  · have YP : ah.isSome = true := by
      cases h : ah.isSome with
      | true => rfl
      | false => rw [ht0 h] at Ia; exact absurd Ia (by decide)
    have ay := vQ YP
    rw [if_pos (show t = iA from Ia)] at ay
    refine Sr (Mv ?_)
    refine Am ?_
    refine Am ?_
    refine Qn (Rs (ak (hR := ?_)))
    exact ⟨⟨-1, by rw [ay]; show fB [I (-1), .bool ah.isSome] = _; rw [YP]; rfl, fun g h => by rw [ay] at h; injection h⟩, H5.kept⟩
  refine Sk (Sr (Mv ?_))
  refine aN H5 (Ku t zV) (h := fun wa Ha ka => ?_)
  refine Am ?_
  refine Nx (Mv ?_)
  refine Mv ?_
  refine Mv ?_
  refine dh (t := 19) rfl (fun Sa => ?_) (fun Sa => ?_)
  · have ay := vQ Sa
    rw [if_neg (show ¬ t = iA by assumption)] at ay
    refine On (Mv ?_)
    refine On (Vv (Gives.geq rfl rfl) (Pt ?_))
    refine Am ?_
    refine Am ?_
    refine Qn (aM (ak (hR := ?_)))
    first
    | exact ⟨⟨_, by rw [ay]; rfl, fun g h => by rw [ay] at h; cases h⟩, Ha.kept⟩
    | (cases hg : gP t with
       | none =>
         rw [hg] at ay
         exact ⟨⟨-1, by rw [ay]; rfl, fun g h => by rw [ay] at h; cases h⟩, Ha.kept⟩
       | some n =>
         rw [hg] at ay
         refine ⟨⟨((n : Nat) : Int), ?_, fun g h => by rw [ay] at h; injection h⟩, Ha.kept⟩
         rw [ay]
         exact congrArg (fun b => Value.tuple #[I n, .bool b]) (decide_eq_true (show (0 : Int) ≤ ((n : Nat) : Int) by omega)))
  have ay := qV Sa
  refine Of (Of (Pf ?_))
  refine Am ?_
  refine Am ?_
  refine Qn (aM (ak (hR := ?_)))
  first
  | exact ⟨⟨_, by rw [ay]; rfl, fun g h => by rw [ay] at h; cases h⟩, Ha.kept⟩
  | (cases hg : gP t with
     | none =>
       rw [hg] at ay
       exact ⟨⟨-1, by rw [ay]; rfl, fun g h => by rw [ay] at h; cases h⟩, Ha.kept⟩
     | some n =>
       rw [hg] at ay
       refine ⟨⟨((n : Nat) : Int), ?_, fun g h => by rw [ay] at h; injection h⟩, Ha.kept⟩
       rw [ay]
       exact congrArg (fun b => Value.tuple #[I n, .bool b]) (decide_eq_true (show (0 : Int) ≤ ((n : Nat) : Int) by omega)))
theorem CY (s : List UInt8) (hl : s.length ≤ 1000000) : bF Tryz.prog 46 [str s] w fun v w' => ∃ x, v = .tuple #[x, .bool (dU s).2] ∧ True ∧ Turn noB (cO 9 1 bX x (dU s).1) w w' := by
 have H := Sep.bB w
 refine dP Tryz.func46 rfl rfl rfl rfl ?_
 refine Sr (Am ?_)
 refine Am ?_
 refine Nx (Am ?_)
 refine Nx (Am ?_)
 refine Qn (au (Sr (Am ?_)))
 refine Qn (aF ?_)
 have H7 := Sep.iX H 9 1 bX
 refine bA (fun x : Nat × Nat × List (List UInt8) × Value => [(0, str s), (4, x.2.2.2), (5, I x.2.1), (6, I x.1)]) (fun x w' => (x.1 ≤ s.length ∧ x.2.1 ≤ x.1 ∧ x.2.2.1.length ≤ x.1 ∧ bT 10 s = x.2.2.1 ++ bT 10 (s.drop x.2.1) ∧ ∀ c ∈ (s.take x.1).drop x.2.1, c ≠ 10) ∧ Sep w noB [cO 9 1 bX x.2.2.2 x.2.2.1] w') (fun x _ => s.length - x.1) (0, 0, [], .slice none 0 0) ⟨rfl, rfl, rfl, rfl, trivial⟩ ⟨⟨Nat.zero_le _, Nat.le_refl _, Nat.le_refl _, rfl, fun c hc => by simp at hc⟩, H7⟩ (fun x τ w7 hI => ?_)
 obtain ⟨i, f, pre, v0⟩ := x
 obtain ⟨⟨hi, hf, O6, vP, iY⟩, H7⟩ := hI
 dsimp only at hi hf O6 vP iY H7
 try simp only [cZ, like, bC, bZ]
 refine au (Sr (Mv ?_))
 refine Mv ?_
 refine Vt ?_
 refine Vl ?_
 refine Qn (Cp rfl (fun Ia => ?_) (fun Ia => ?_))
 ·have bU : i < s.length := by omega
  obtain ⟨c, hc⟩ := get_some bU
  have LZ : s.getD i 0 = c := l6 hc
  refine Sk (au (aF (Sr (Mv ?_))))
  refine Mv ?_
  refine Vv (Gives.fF rfl rfl bU) ?_
  rw [LZ]
  refine Ve ?_
  refine Qn (Cp rfl (fun Ib => ?_) (fun Ib => ?_))
  ·have Ic : c = 10 := by rw [← UInt8.toNat_inj]; show c.toNat = 10; omega
   rw [Ic] at hc
   have abu : bT 10 s = (pre ++ [(s.take i).drop f]) ++ bT 10 (s.drop (i + 1)) := by
    rw [vP, drop_at hf hc, rV iY, List.append_assoc]
    rfl
   refine Sr (Mv ?_)
   refine Mv ?_
   refine Mv ?_
   refine Mv ?_
   refine Vv (Gives.fE (l := s) (i := f) (m := i) rfl rfl rfl (by omega) (by omega)) (aX H7 (xs := [.tmp 21]) (out := [(s.take i).drop f].flatMap bX) (aU.one rfl rfl aU.nil) rfl rfl rfl (fun bs wa Ha ka => ?_))
   refine gK Ha (news := [(s.take i).drop f]) At0 (by unfold maxLen; simp; omega) (by simp; omega) (cells_one (fun _ => rfl) _) (h := ?_)
   intro v2 wb Hb
   refine Am ?_
   refine Qn (aB (Mv ?_))
   refine Vv (Gives.bM rfl rfl rfl (by omega)) (Am ?_)
   refine aP (aA (aj (aB (Mv ?_))))
   refine Vv (Gives.bM rfl rfl rfl (by omega)) (Am ?_)
   refine aP ?_
   exact aC (i + 1, i + 1, pre ++ [(s.take i).drop f], v2) ⟨rfl, rfl, rfl, rfl, trivial⟩ ⟨⟨by dsimp only; omega, Nat.le_refl _, by dsimp only; rw [List.length_append, List.length_singleton]; omega, abu, fun c hc => by dsimp only at hc; rw [List.drop_of_length_le (by rw [List.length_take]; omega)] at hc; exact absurd hc List.not_mem_nil⟩, Hb⟩ (by dsimp only; omega)
  have Ic : ¬ c = 10 := fun e => Ib (by rw [e]; rfl)
  refine aY (aA (aj (aB (Mv ?_))))
  refine Vv (Gives.bM rfl rfl rfl (by omega)) (Am ?_)
  refine aP ?_
  exact aC (i + 1, f, pre, v0) ⟨rfl, rfl, rfl, rfl, trivial⟩ ⟨⟨by dsimp only; omega, by dsimp only; omega, by dsimp only; omega, vP, fun u hu => by
  dsimp only at hu
  rw [MS hf hc] at hu
  rcases List.mem_append.1 hu with h | h
  ·exact iY u h
  rw [List.mem_singleton.1 h]; exact Ic⟩, H7⟩ (by dsimp only; omega)
 have jW : i = s.length := by omega
 rw [jW, List.take_length] at iY
 rw [qp iY] at vP
 refine bq (aT (aO (aV (aj (au (Sr (Mv ?_)))))))
 refine Mv ?_
 refine Vt ?_
 refine Vl ?_
 refine Qn (Cp rfl (fun Id => ?_) (fun Id => ?_))
 ·have fM : ¬ s.drop f = [] := fun e => by have := congrArg List.length e; rw [List.length_drop, List.length_nil] at this; omega
  have ay : dU s = (pre ++ [s.drop f], false) := by
   unfold dU
   rw [vP, if_neg (by rw [List.getLast?_append]; simp only [List.getLast?_singleton, Option.some_or]; exact fun e => fM (by injection e))]
  refine Sr (Mv ?_)
  refine Mv ?_
  refine Mv ?_
  refine Vv (Gives.dW rfl rfl (by omega)) (aX H7 (xs := [.tmp 33]) (out := [s.drop f].flatMap bX) (aU.one rfl rfl aU.nil) rfl rfl rfl (fun bs wc Hc kb => ?_))
  refine gK Hc (news := [s.drop f]) At0 (by unfold maxLen; simp; omega) (by simp; omega) (cells_one (fun _ => rfl) _) (h := ?_)
  intro v2 wd Hd
  refine Am ?_
  refine Am ?_
  refine Qn (Rs (ak (hR := ?_)))
  exact ⟨v2, by rw [ay]; rfl, trivial, by rw [ay]; exact Hd.turn⟩
 have ay : dU s = (pre, true) := by
  rw [List.drop_of_length_le (show s.length ≤ f by omega)] at vP
  unfold dU
  rw [vP, if_pos (by rw [List.getLast?_append]; rfl), List.dropLast_concat]
 refine Sk (Sr (Mv ?_))
 refine Am ?_
 refine Am ?_
 refine Qn (aM (ak (hR := ?_)))
 exact ⟨v0, by rw [ay]; rfl, trivial, by rw [ay]; exact H7.turn⟩
theorem MV (s : List UInt8) (hl : s.length ≤ 1000000) : bF Tryz.prog 47 [str s] w fun v w' => ∃ x : Value × List bL, v = .tuple #[x.1, .bool (lN s).isSome] ∧ (∀ l, lN s = some l → x.2 = l) ∧ Turn noB (cO 60 3 aI x.1 x.2) w w' := by
 have H := Sep.bB w
 obtain ⟨ah, O9⟩ : ∃ ah, ah = jg uM s := ⟨_, rfl⟩
 obtain ⟨t, ht⟩ : ∃ t, t = ah.getD [] := ⟨_, rfl⟩
 have zV : t.length ≤ 1000000 := by
  rw [ht, O9]
  unfold jg
  split
  ·show (s.drop _).length ≤ _; rw [List.length_drop]; omega
  exact Nat.zero_le _
 have vQ : ah.isSome = true → lN s = if t = [] then none else if t = iA then some [] else if (bN t).2 = 0 then some (bN t).1 else none := fun h => by
  obtain ⟨u, hu⟩ := Option.isSome_iff_exists.1 h
  unfold lN
  rw [← O9, hu, Option.bind_some, ht, hu]
  rfl
 have qV : ah.isSome = false → lN s = none := fun h => by
  rw [Option.isSome_eq_false_iff, Option.isNone_iff_eq_none] at h
  unfold lN
  rw [← O9, h]
  rfl
 refine dP Tryz.func47 rfl rfl rfl rfl ?_
 refine Sr (Am ?_)
 refine Am ?_
 refine Nx (Mv ?_)
 refine aN H (yA s uM) (h := fun w5 H5 k4 => ?_)
 rw [← O9, ← ht]
 refine Mv ?_
 refine Vx ?_
 refine Vx ?_
 refine Am ?_
 refine Am ?_
 refine Qn (au (Sr (Mv ?_)))
 refine Vv (Gives.not rfl) (Mv ?_)
 refine dh (t := 15) rfl (fun Sa => ?_) (fun Sa => ?_)
 ·have ay := qV (by simpa using Sa)
  refine Of (Of (Pt ?_))
  refine Qn (aQ rfl ?_)
  refine Sr (Am ?_)
  refine Am ?_
  refine Qn (Rs (ak (hR := ?_)))
  exact ⟨(.slice none 0 0, []), by rw [ay]; rfl, fun l h => (by rw [ay] at h; cases h), (Sep.iX H5 60 3 aI).first.turn⟩
 have ay := vQ (by simpa using Sa)
 refine On (Mv ?_)
 refine On (Vv (Gives.iD rfl rfl) (Pf ?_))
 refine Qn (Cp rfl (fun Ia => ?_) (fun Ia => ?_))
 ·rw [if_pos Ia] at ay
  refine Sr (Am ?_)
  refine Am ?_
  refine Qn (Rs (ak (hR := ?_)))
  exact ⟨(.slice none 0 0, []), by rw [ay]; rfl, fun l h => (by rw [ay] at h; cases h), (Sep.iX H5 60 3 aI).first.turn⟩
 rw [if_neg Ia] at ay
 refine Sk (au (Sr (Mv ?_)))
 refine Vv (Gives.iD rfl rfl) (Qn ?_)
 refine Cp rfl (fun Ib => ?_) (fun Ib => ?_)
 ·rw [if_pos (show t = iA from Ib)] at ay
  refine Sr (Am ?_)
  refine Am ?_
  refine Qn (Rs (ak (hR := ?_)))
  exact ⟨(.slice none 0 0, []), by rw [ay]; rfl, fun l h => (by rw [ay] at h; injection h), (Sep.iX H5 60 3 aI).first.turn⟩
 rw [if_neg (show ¬ t = iA from Ib)] at ay
 refine Sk (Sr (Mv ?_))
 refine eX H5 (DK t zV) (h := fun x wa _ Ha ka => ?_)
 refine Mv ?_
 refine Vx ?_
 refine Vx ?_
 refine Am ?_
 refine Am ?_
 refine Nx (Mv ?_)
 refine Mv ?_
 refine Ve ?_
 refine Am ?_
 refine Am ?_
 refine Qn (aM (ak (hR := ?_)))
 refine ⟨(x, (bN t).1), ?_, fun l h => ?_, Ha.turn⟩
 ·rw [ay]
  by_cases e : (bN t).2 = 0
  ·rw [if_pos e]; exact congrArg (fun b => Value.tuple #[x, .bool b]) (decide_eq_true e)
  rw [if_neg e]; exact congrArg (fun b => Value.tuple #[x, .bool b]) (decide_eq_false e)
 rw [ay] at h
 split at h
 ·injection h
 cases h
theorem RZ (s : List UInt8) (hl : s.length ≤ 1000000) : bF Tryz.prog 48 [str s] w fun v w' => ∃ x : List UInt8 × Value × List bL, v = .tuple #[agg (bO (x.1, x.2.1)), .bool (qd s).isSome] ∧ (∀ o, qd s = some o → x.1 = o.name ∧ x.2.2 = o.steps) ∧ Turn noB (cO 60 3 aI x.2.1 x.2.2) w w' := by
  have H := Sep.bB w
  obtain ⟨ah, O9⟩ : ∃ ah, ah = jg BM s := ⟨_, rfl⟩
  obtain ⟨t, ht⟩ : ∃ t, t = ah.getD [] := ⟨_, rfl⟩
  have zV : t.length ≤ 1000000 := by
    rw [ht, O9]
    unfold jg
    split
    · show (s.drop _).length ≤ _; rw [List.length_drop]; omega
    exact Nat.zero_le _
  have vQ : ah.isSome = true → qd s = (pE t).bind fun x => if (bN x.2).2 = 0 ∧ (bN x.2).1 ≠ [] ∧ dG x.1 = true then some ⟨x.1, (bN x.2).1⟩ else none := fun h => by
    obtain ⟨u, hu⟩ := Option.isSome_iff_exists.1 h
    unfold qd
    rw [← O9, hu, Option.bind_some, ht, hu]
    rfl
  have qV : ah.isSome = false → qd s = none := fun h => by
    rw [Option.isSome_eq_false_iff, Option.isNone_iff_eq_none] at h
    unfold qd
    rw [← O9, h]
    rfl
  refine qo Tryz.func48 rfl rfl rfl rfl ?_
  refine Sr (bD H (h := fun b2 w2 H2 k1 => ?_))
  refine Am ?_
  refine Nx (Mv ?_)
  refine aN H2 (yA s BM) (h := fun w6 H6 k5 => ?_)
  rw [← O9, ← ht]
  refine Mv ?_
  refine Vx ?_
  refine Vx ?_
  refine Am ?_
  refine Am ?_
  refine Qn (au (Sr (Am ?_)))
  refine Qn (aF (bA (fun i : Nat => [(2, bI b2), (4, str t), (5, .bool ah.isSome), (6, I i)]) (fun i w' => (i ≤ t.length ∧ ∀ c ∈ t.take i, c ≠ 32) ∧ Sep w noB [blk b2 (bO ([], .slice none 0 0)) 53] w') (fun i _ => t.length - i) 0 ⟨rfl, rfl, rfl, rfl, trivial⟩ ⟨⟨Nat.zero_le _, fun c hc => by simp at hc⟩, H6⟩ (fun i τ wa hI => ?_)))
  obtain ⟨⟨hi, iY⟩, Ha⟩ := hI
  try simp only [cZ, like, bC, bZ]
  refine au (Sr (Mv ?_))
  refine Mv ?_
  refine dh (t := 15) rfl (fun Sa => ?_) (fun Sa => ?_)
  · have ay := vQ Sa
    refine On (Mv ?_)
    refine On (Mv ?_)
    refine On (Vt ?_)
    refine On (Vl ?_)
    refine Pt ?_
    refine Qn (Cp rfl (fun Ia => ?_) (fun Ia => ?_))
    · have bU : i < t.length := by omega
      obtain ⟨c, hc⟩ := get_some bU
      have LZ : t.getD i 0 = c := l6 hc
      refine Sk (au (aF (Sr (Mv ?_))))
      refine Mv ?_
      refine Vv (Gives.fF rfl rfl bU) ?_
      rw [LZ]
      refine Ve ?_
      refine Qn (Cp rfl (fun Ib => ?_) (fun Ib => ?_))
      · have Ic : c = 32 := by rw [← UInt8.toNat_inj]; show c.toNat = 32; omega
        rw [Ic] at hc
        rw [XB iY hc, Option.bind_some] at ay
        dsimp only at ay
        refine Sr (Mv ?_)
        refine Mv ?_
        refine Vv (Gives.bM (c := ((i + 1 : Nat) : Int)) rfl rfl (by omega) (by omega)) (Vv (Gives.dW rfl rfl (by omega)) ?_)
        refine eX Ha (DK (t.drop (i + 1)) (by rw [List.length_drop]; omega)) (h := fun x wb _ Hb ka => ?_)
        obtain ⟨X, cx, rfl, _, _⟩ := Sep.fJ Hb At0
        refine Mv ?_
        refine Vx ?_
        refine Vx ?_
        refine Am ?_
        refine Am ?_
        refine Qn (au (bG rfl Hb (h := fun Sb wc Hc => ?_)))
        refine Gm Sb 0 ?_
        refine Gm Sb 1 ?_
        refine Gp Sb 2 rfl rfl (fun _ => (Gives.lq rfl rfl (by omega))) (Gm Sb 3 ?_)
        refine Gp Sb 4 rfl rfl (fun _ => (Gives.build (out := bO (t.take i, .slice X (bN (t.drop (i + 1))).1.length cx)) (Fills.one rfl rfl rfl (by simp) rfl (Fills.one rfl rfl rfl (by simp) rfl Fills.nil)))) (Gm Sb 5 ?_)
        refine Gp Sb 6 rfl rfl (fun _ => (Gives.eql rfl rfl)) (Gm Sb 7 ?_)
        refine lC (t := 42) rfl (fun Sc => ?_) (fun Sc => ?_)
        · refine Gm Sb 8 ?_
          refine Gp Sb 9 rfl rfl (fun _ => (Gives.rJ rfl)) (Gp Sb 10 rfl rfl (fun _ => (Gives.gtr rfl rfl)) ?_)
          refine Gp Sb 11 rfl rfl (fun _ => Gives.nC rfl rfl) (Gm Sb 12 ?_)
          refine lC (t := 47) rfl (fun Sd => ?_) (fun Sd => ?_)
          · have Yh : (bN (t.drop (i + 1))).1 ≠ [] := fun e => by rw [e] at Sd; exact absurd Sd (by decide)
            have gu : (bN (t.drop (i + 1))).2 = 0 := by assumption
            refine Gm Sb 13 ?_
            refine Gm Sb 14 ?_
            refine Gp Sb 15 rfl rfl (fun _ => (Gives.lq rfl rfl (by omega))) (fQ Sb 16 [(4, true), (3, true), (2, true), (1, true), (0, true)] Hc (Bb (t.take i)) (h := fun wd Hd kb => ⟨av (av (av (av (av (aK))))), ?_⟩))
            refine Gp Sb 17 rfl rfl (fun _ => Gives.nC rfl rfl) (dF Sb 18 [(17, true)] Hd (h := fun we He => ⟨av (aK), ?_⟩))
            refine Gp Sb 19 rfl rfl (fun _ => Gives.assign rfl) (bR Sb (by kernel_rfl) ?_)
            refine aj (Rb (aR (aH (aL (aW (h := ?_))))))
            first
            | exact ⟨_, dQ He, (t.take i, .slice X (bN (t.drop (i + 1))).1.length cx, (bN (t.drop (i + 1))).1), by rw [ay]; rfl, fun o h => (by rw [ay] at h; cases h), He.first.turn⟩
            | (cases En : dG (t.take i) with
               | true =>
                 rw [if_pos ⟨gu, Yh, En⟩] at ay
                 exact ⟨_, dQ He, (t.take i, .slice X (bN (t.drop (i + 1))).1.length cx, (bN (t.drop (i + 1))).1), by rw [ay]; rfl, fun o h => (by rw [ay] at h; injection h with h; rw [← h]; exact ⟨rfl, rfl⟩), He.first.turn⟩
               | false =>
                 rw [if_neg (fun h => by rw [En] at h; exact absurd h.2.2 (by decide))] at ay
                 exact ⟨_, dQ He, (t.take i, .slice X (bN (t.drop (i + 1))).1.length cx, (bN (t.drop (i + 1))).1), by rw [ay]; rfl, fun o h => (by rw [ay] at h; cases h), He.first.turn⟩)
          rw [if_neg (fun h => h.2.1 (List.eq_nil_of_length_eq_zero (by omega)))] at ay
          refine dL Sb 13 rfl rfl (by kernel_rfl) ?_
          refine dL Sb 14 rfl rfl (by kernel_rfl) ?_
          refine dL Sb 15 rfl rfl (by kernel_rfl) ?_
          refine dL Sb 16 rfl rfl (by kernel_rfl) ?_
          refine Gp Sb 17 rfl rfl (fun _ => Gives.nP rfl rfl) (dF Sb 18 [(17, true)] Hc (h := fun wf Hf => ⟨av (aK), ?_⟩))
          refine Gp Sb 19 rfl rfl (fun _ => Gives.assign rfl) (bR Sb (by kernel_rfl) ?_)
          refine aj (Rb (aR (aH (aL (aW (h := ?_))))))
          first
          | exact ⟨_, dQ Hf, (t.take i, .slice X (bN (t.drop (i + 1))).1.length cx, (bN (t.drop (i + 1))).1), by rw [ay]; rfl, fun o h => (by rw [ay] at h; cases h), Hf.first.turn⟩
          | (cases En : dG (t.take i) with
             | true =>
               rw [if_pos ⟨gu, Yh, En⟩] at ay
               exact ⟨_, dQ Hf, (t.take i, .slice X (bN (t.drop (i + 1))).1.length cx, (bN (t.drop (i + 1))).1), by rw [ay]; rfl, fun o h => (by rw [ay] at h; injection h with h; rw [← h]; exact ⟨rfl, rfl⟩), Hf.first.turn⟩
             | false =>
               rw [if_neg (fun h => by rw [En] at h; exact absurd h.2.2 (by decide))] at ay
               exact ⟨_, dQ Hf, (t.take i, .slice X (bN (t.drop (i + 1))).1.length cx, (bN (t.drop (i + 1))).1), by rw [ay]; rfl, fun o h => (by rw [ay] at h; cases h), Hf.first.turn⟩)
        rw [if_neg (fun h => Sc h.1)] at ay
        refine dL Sb 8 rfl rfl (by kernel_rfl) ?_
        refine dL Sb 9 rfl rfl (by kernel_rfl) ?_
        refine dL Sb 10 rfl rfl (by kernel_rfl) ?_
        refine Gp Sb 11 rfl rfl (fun _ => Gives.nP rfl rfl) (Gm Sb 12 ?_)
        refine dL Sb 13 rfl rfl (by kernel_rfl) ?_
        refine dL Sb 14 rfl rfl (by kernel_rfl) ?_
        refine dL Sb 15 rfl rfl (by kernel_rfl) ?_
        refine dL Sb 16 rfl rfl (by kernel_rfl) ?_
        refine Gp Sb 17 rfl rfl (fun _ => Gives.nP rfl rfl) (dF Sb 18 [(17, true)] Hc (h := fun wg Hg => ⟨av (aK), ?_⟩))
        refine Gp Sb 19 rfl rfl (fun _ => Gives.assign rfl) (bR Sb (by kernel_rfl) ?_)
        refine aj (Rb (aR (aH (aL (aW (h := ?_))))))
        first
        | exact ⟨_, dQ Hg, (t.take i, .slice X (bN (t.drop (i + 1))).1.length cx, (bN (t.drop (i + 1))).1), by rw [ay]; rfl, fun o h => (by rw [ay] at h; cases h), Hg.first.turn⟩
        | (cases En : dG (t.take i) with
           | true =>
             rw [if_pos ⟨gu, Yh, En⟩] at ay
             exact ⟨_, dQ Hg, (t.take i, .slice X (bN (t.drop (i + 1))).1.length cx, (bN (t.drop (i + 1))).1), by rw [ay]; rfl, fun o h => (by rw [ay] at h; injection h with h; rw [← h]; exact ⟨rfl, rfl⟩), Hg.first.turn⟩
           | false =>
             rw [if_neg (fun h => by rw [En] at h; exact absurd h.2.2 (by decide))] at ay
             exact ⟨_, dQ Hg, (t.take i, .slice X (bN (t.drop (i + 1))).1.length cx, (bN (t.drop (i + 1))).1), by rw [ay]; rfl, fun o h => (by rw [ay] at h; cases h), Hg.first.turn⟩)
      have Ic : ¬ c = 32 := fun e => Ib (by rw [e]; rfl)
      refine aY (aA (aj (aB (Mv ?_))))
      refine Vv (Gives.bM rfl rfl rfl (by omega)) (Am ?_)
      refine aP ?_
      exact aC (i + 1) ⟨rfl, rfl, rfl, rfl, trivial⟩ ⟨⟨by omega, fun u hu => by
      rw [List.take_add_one, hc, Option.toList_some] at hu
      rcases List.mem_append.1 hu with h | h
      · exact iY u h
      rw [List.mem_singleton.1 h]; exact Ic⟩, Ha⟩ (by omega)
    have jW : i = t.length := by omega
    rw [jW, List.take_length] at iY
    rw [U8 iY, Option.bind_none] at ay
    refine bq (aT (aO (aV (aj (Sr (Vv (Gives.build (out := bO ([], .slice none 0 0)) Fills.nil) ?_))))))
    refine aD Ha (h := fun wh Hh => ?_)
    refine Am ?_
    refine Qn (aM (aW (h := ?_)))
    exact ⟨_, dQ Hh, ([], .slice none 0 0, []), by rw [ay]; rfl, fun o h => (by rw [ay] at h; cases h), (Sep.iX Hh 60 3 aI).first.turn⟩
  have ay := qV Sa
  refine Of (Of (Of (Of (Pf ?_))))
  refine Qn (bg rfl ?_)
  refine bq (aT (aO (aV (aj (Sr (Vv (Gives.build (out := bO ([], .slice none 0 0)) Fills.nil) ?_))))))
  refine aD Ha (h := fun wi Hi => ?_)
  refine Am ?_
  refine Qn (aM (aW (h := ?_)))
  exact ⟨_, dQ Hi, ([], .slice none 0 0, []), by rw [ay]; rfl, fun o h => (by rw [ay] at h; cases h), (Sep.iX Hi 60 3 aI).first.turn⟩
end
theorem Fv : ∀ s : List UInt8, Lib.index s [32] = match s.idxOf? 32 with | some i => (i : Int) | none => -1
 | [] => rfl
 | c :: t => by
  have ih := Fv t
  by_cases h : c = 32
  ·subst h
   have e : List.idxOf? 32 (32 :: t) = some 0 := by unfold List.idxOf?; rw [List.findIdx?_cons]; rfl
   rw [D5, e]; rfl
  have hb : (c == 32) = false := by simpa using h
  have e : List.idxOf? 32 (c :: t) = (List.idxOf? 32 t).map (· + 1) := by unfold List.idxOf?; rw [List.findIdx?_cons, hb]; rfl
  rw [BG h, ih, e]
  cases List.idxOf? 32 t with
  | none => rfl
  | some i =>
   show (if (i : Int) = -1 then (-1 : Int) else (i : Int) + 1) = ((i + 1 : Nat) : Int)
   rw [if_neg (by omega)]
   omega
theorem U9 (s : List UInt8) : (Lib.cut s [32]).1 = (iN s).1 ∧ (Lib.cut s [32]).2.1 = (iN s).2 := by
 unfold Lib.cut iN pE
 rw [Fv]
 cases h : s.idxOf? 32 with
 | none => simp
 | some i => simp
theorem Fw (s : List UInt8) : (iN s).1.length ≤ s.length ∧ (iN s).2.length ≤ s.length := by
 unfold iN
 cases h : pE s with
 | none => simp
 | some x =>
  obtain ⟨a, b⟩ := x
  have := RU h
  rw [this]
  simp only [Option.getD_some, List.length_append]
  omega
theorem uU {n : List UInt8} {v : Value} (hv : v.oneCell' = true) : ∀ u ∈ [(n, v)].flatMap bO, u.oneCell' = true := fun u hu => by
 simp only [List.flatMap_cons, List.flatMap_nil, List.append_nil, bO, List.mem_cons, List.not_mem_nil, or_false] at hu
 rcases hu with rfl | rfl
 ·rfl
 exact hv
theorem PS {l : List UInt8} {v : Int} (h : atoiAll l = .ok v) : fits v := atoiAll_bounds h
def Bc (b : Nat) (p : cB) (st : Int) : HP := exH fun x : Value × Value × List (List UInt8 × Value) => jc [blk b [x.1, x.2.1, I p.group, I st] 74, zh x.1 aI 3 p.wh, cO 53 2 bO x.2.1 x.2.2, qJ x.2.2 p.cols]
def Y5 (b : Nat) : Option (cB × Int) → HP
 | some r => Bc b r.1 r.2
 | none => emp
section
variable {w w₀ : World} {S : Nat → Prop} {rs : List HP}
theorem pR {b : Nat} {p : cB} {st : Int} {vw vc : Value} {r : List (List UInt8 × Value)} (H : Mw.Sep w₀ S (blk b [vw, vc, I p.group, I st] 74 :: zh vw aI 3 p.wh :: cO 53 2 bO vc r :: qJ r p.cols :: rs) w) : Mw.Sep w₀ S (Bc b p st :: rs) w :=
 Sep.AX (p := fun x : Value × Value × List (List UInt8 × Value) => jc [blk b [x.1, x.2.1, I p.group, I st] 74, zh x.1 aI 3 p.wh, cO 53 2 bO x.2.1 x.2.2, qJ x.2.2 p.cols]) (vw, vc, r) (Sep.bundle (l := [_, _, _, _]) H)
theorem CZ {b : Nat} {p : cB} {st : Int} (H : Mw.Sep w₀ S (Bc b p st :: rs) w) : ∃ vw vc r, Mw.Sep w₀ S (blk b [vw, vc, I p.group, I st] 74 :: zh vw aI 3 p.wh :: cO 53 2 bO vc r :: qJ r p.cols :: rs) w := by
 unfold Bc at H
 obtain ⟨⟨vw, vc, r⟩, H⟩ := H.ex0
 exact ⟨vw, vc, r, Sep.parts H⟩
theorem mI {F : Nat → Prop} (H : Mw.Sep w₀ F rs w) : Turn F emp w₀ w := (Sep.nA (φ := True) trivial H).first.turn
theorem R3 (s : List UInt8) (hl : s.length ≤ 1048576) (hT : je w) : bF Tryz.prog 91 [str s, str [32]] w fun v w' => (∃ b, v = .tuple #[str (iN s).1, str (iN s).2, .bool b]) ∧ Kept noB w w' := by
 obtain ⟨m, hm⟩ := hT.len
 have hs : (⟨s.toArray⟩ : ByteArray).size = s.length := Mw.size_mk s
 exact Calls.mono (Tryz.strings_Cut ⟨s.toArray⟩ ⟨#[32]⟩ m w (by rw [hs]; omega) hm) fun e w' he => by
  obtain ⟨rfl, n, rfl⟩ := he
  obtain ⟨h1, h2⟩ := U9 s
  refine ⟨⟨(Lib.cut s [32]).2.2, ?_⟩, (Kept.refl noB w).YZ _⟩
  show Value.tuple #[str (Lib.cut s [32]).1, str (Lib.cut s [32]).2.1, .bool (Lib.cut s [32]).2.2] = _
  rw [h1, h2]
theorem Vd (t : List UInt8) (hl : t.length ≤ 1048576) (hT : je w) : bF Tryz.prog 93 [str t] w fun v w' => (∃ n e b, v = .tuple #[I n, e] ∧ IsNil e b ∧ (b = true → atoiAll t = .ok n) ∧ (b = false → ∀ m, atoiAll t ≠ .ok m)) ∧ Kept noB w w' := by
 have hs : (⟨t.toArray⟩ : ByteArray).size = t.length := Mw.size_mk t
 cases h : atoiAll t
 ·rename_i v
  exact Calls.mono (Tryz.strconv_Atoi_ok ⟨t.toArray⟩ (by rw [hs]; omega) v h w) fun e w' he => by
   obtain ⟨rfl, hw⟩ := he
   refine ⟨⟨v, .nilIface, true, rfl, .inl ⟨rfl, rfl⟩, fun _ => rfl, fun hf => by cases hf⟩, ?_⟩
   rcases hw with rfl | ⟨t, rfl⟩
   ·exact Kept.refl _ _
   exact Kept.of_below (Lib.bytesWorld_below _ _ _)
 ·skip
  obtain ⟨tp, p, hv⟩ := hT.syn
  exact Calls.mono (Tryz.strconv_Atoi_syntax_var ⟨t.toArray⟩ (by rw [hs]; omega) h rfl tp p w hv) fun e w' he => by
   obtain ⟨N, rfl, _, _, hb⟩ := he
   exact ⟨⟨_, _, false, rfl, .inr ⟨rfl, _, _, rfl⟩, (fun hf => by cases hf), fun _ m hm => by cases hm⟩, Kept.of_below hb⟩
 ·skip
  obtain ⟨tp, p, hv⟩ := hT.ran
  exact Calls.mono (Tryz.strconv_Atoi_range_var ⟨t.toArray⟩ (by rw [hs]; omega) h tp p w hv) fun e w' he => by
   obtain ⟨N, rfl, _, _, hb⟩ := he
   exact ⟨⟨_, _, false, rfl, .inr ⟨rfl, _, _, rfl⟩, (fun hf => by cases hf), fun _ m hm => by cases hm⟩, Kept.of_below hb⟩
theorem Fx (t : List UInt8) (hl : t.length ≤ 1000000) (hT : je w) : bF Tryz.prog 92 [str t] w fun v w' => ∃ x, v = .tuple #[x, .bool (lF t).isSome] ∧ True ∧ Turn noB (cO 60 3 aI x (bN t).1) w w' := by
 have H := Sep.bB w
 obtain ⟨res, ay⟩ : ∃ res, res = (lF t).isSome := ⟨_, rfl⟩
 rw [← ay]
 unfold lF at ay
 refine dP Tryz.func92 rfl rfl rfl rfl ?_
 refine Sr (Am ?_)
 refine Am ?_
 refine Nx (Mv ?_)
 refine eX H (Po t (.inl hl) (by omega) (hT.keep H.kept)) (h := fun x w5 _ H5 k4 => ?_)
 obtain ⟨B, cb, rfl, EP, hB⟩ := Sep.fJ H5 At0
 refine Mv ?_
 refine Vx ?_
 refine Vx ?_
 refine Am ?_
 refine Am ?_
 refine Nx (Mv ?_)
 refine Mv ?_
 refine Ve ?_
 refine Mv ?_
 refine aG (t := 14) rfl (fun Sa => ?_) (fun Sa => ?_)
 ·have he : (bN t).2 = 0 := Sa
  refine On (Mv ?_)
  refine On (Vs ?_)
  refine On (Vg ?_)
  refine Pt ?_
  refine Am ?_
  refine Am ?_
  refine Qn (aM (ak (hR := ?_)))
  exact ⟨_, by first | (rw [ay]; rfl) | (rw [ay]; by_cases hq : (bN t).1 = [] <;> simp [hq, he, fB, List.length_pos_iff]), trivial, H5.turn⟩
 rw [if_neg (fun h => Sa h.1)] at ay
 refine Of (Of (Of (Pf ?_)))
 refine Am ?_
 refine Am ?_
 refine Qn (aM (ak (hR := ?_)))
 exact ⟨_, by first | (rw [ay]; rfl) | (rw [ay]; by_cases hq : (bN t).1 = [] <;> simp [hq, he, fB, List.length_pos_iff]), trivial, H5.turn⟩
theorem Vh {b : Nat} {F : Nat → Prop} {p : cB} {st : Int} (s : List UInt8) (hp : (Bc b p st).ok F w) (dJ : st = 0 ∨ st = 1 ∨ st = 2 ∨ st = 3) (hl : s.length ≤ 1000000) (hn : p.cols.length ≤ 1000000) (hT : ∀ w', Kept F w w' → je w') :
    bF Tryz.prog 45 [bI b, str s] w fun v w' => v = .bool (iO p st s).isSome ∧ Turn F (Y5 b (iO p st s)) w w' := by
  obtain ⟨vw, vc, r, H⟩ := CZ (Sep.iy hp)
  obtain ⟨res, ay⟩ : ∃ res, res = iO p st s := ⟨_, rfl⟩
  rw [← ay]
  unfold iO at ay
  obtain ⟨wd, hwd⟩ : ∃ wd, wd = (iN s).1 := ⟨_, rfl⟩
  obtain ⟨rest, Pb⟩ : ∃ rest, rest = (iN s).2 := ⟨_, rfl⟩
  have AO : rest.length ≤ 1000000 := by have := (Fw s).2; rw [Pb]; omega
  rw [← hwd, ← Pb] at ay
  obtain ⟨A, ca, rfl, hca, hA⟩ := Sep.fJ H At2
  have mG : lJ w r p.cols := Sep.sees H At3
  have hrn := mG.len
  have hvw : ∃ A c, vw = .slice A p.wh.length c := by
    obtain ⟨A, c, e, _⟩ := (Sep.sees H At1 : dn w vw aI 3 p.wh)
    exact ⟨A, c, e⟩
  obtain ⟨Aw, cw, rfl⟩ := hvw
  refine eU Tryz.func45 rfl rfl rfl rfl ?_
  refine Sr (Am ?_)
  refine Nx (Mv ?_)
  refine bH (R3 s (by omega) (hT _ H.kept)) rfl rfl (fun v' w4 hv => ?_)
  obtain ⟨⟨b7, rfl⟩, dK⟩ := hv
  have H4 := H.keep dK
  rw [← hwd, ← Pb]
  refine Mv ?_
  refine Vx ?_
  refine Vx ?_
  refine Vx ?_
  refine Am ?_
  refine Am ?_
  refine Am ?_
  refine Qn (au (Sr (Mv ?_)))
  refine Vv (Gives.nilCheck rfl) (Vf ?_)
  refine Ld H4 ?_
  refine Qn (aF (fO (fun _ : Unit => [(0, bI b), (5, str wd), (6, str rest)]) (fun _ w' => (res = (MJ s).map fun o => (⟨p.wh, p.cols ++ [o], p.group⟩, 2)) ∧ Sep w F [blk b [.slice Aw p.wh.length cw, .slice A r.length ca, I p.group, I st] 74, zh (.slice Aw p.wh.length cw) aI 3 p.wh, cO 53 2 bO (.slice A r.length ca) r, qJ r p.cols] w') ?_ ?_))
  · refine aF (au (aF (au (aF (au (au (Sr (Ve ?_))))))))
    refine Am ?_
    refine Qn (Cp rfl (fun Ia => ?_) (fun Ia => ?_))
    · rw [if_pos Ia] at ay
      refine bq (aT (aT (aV (aj (au (Sr (Mv ?_)))))))
      refine Vv (Gives.nilCheck rfl) (Vf ?_)
      refine bW H4 (h := fun wa Ha => ?_)
      refine Qn (au (Sr (Mv ?_)))
      refine Vv (Gives.EA rfl rfl) (Mv ?_)
      refine aG (t := 38) rfl (fun Sa => ?_) (fun Sa => ?_)
      · have Uw : ¬ wd = uS := Sa
        rw [if_neg Uw] at ay
        refine Of (Of (Pt ?_))
        refine Qn (aQ rfl ?_)
        refine Sr (Mv ?_)
        refine Vv (Gives.iD rfl rfl) (Am ?_)
        refine Qn (Rs (aL (aH (aL (aH (gH (aH (aL (ak (hR := ?_))))))))))
        exact ⟨by rw [ay]; exact congrArg Value.bool (decide_eq_false Uw), by rw [ay]; exact mI Ha⟩
      have Uw : wd = uS := Classical.not_not.1 Sa
      rw [if_pos Uw] at ay
      refine On (Mv ?_)
      refine On (Vv (Gives.iD rfl rfl) (Pf ?_))
      refine Qn (Cp rfl (fun Ib => ?_) (fun Ib => ?_))
      · have Wx : rest = iA := Ib
        rw [if_pos Wx] at ay
        refine Sr (Mv ?_)
        refine Vv (Gives.iD rfl rfl) (Am ?_)
        refine Qn (Rs (aL (aH (aL (aH (gH (aH (aL (ak (hR := ?_))))))))))
        exact ⟨by rw [ay]; exact congrArg Value.bool (decide_eq_true Uw), by rw [ay]; exact (pR (p := p) Ha).first.turn⟩
      rw [if_neg (show ¬ rest = iA from Ib)] at ay
      refine Sk (Sr (Mv ?_))
      refine eX Ha (Fx rest AO (hT _ Ha.kept)) (h := fun x wb _ Hb ka => ?_)
      obtain ⟨B, cb, rfl, EP, hB⟩ := Sep.fJ Hb At0
      refine Mv ?_
      refine Vx ?_
      refine Vx ?_
      refine Am ?_
      refine Am ?_
      refine Nx (Mv ?_)
      refine Mv ?_
      refine Vv (Gives.nilCheck rfl) (Vf ?_)
      refine Vf ?_
      refine bW Hb (h := fun wc Hc => ?_)
      refine Nx (Mv ?_)
      refine Am ?_
      refine Qn (Rs (aH (aL (aH (gH (aH (aL (ak (hR := ?_)))))))))
      rw [ay]
      unfold lF
      by_cases hq : (bN rest).2 = 0 ∧ (bN rest).1 ≠ []
      · rw [if_pos hq]
        refine ⟨rfl, ?_⟩
        exact (pR (p := ⟨(bN rest).1, p.cols, p.group⟩) (Sep.dS (jD Hc At0)).iK.fI).first.turn
      rw [if_neg hq]
      exact ⟨rfl, mI Hc⟩
    have Cq : ¬ st = 0 := Ia
    rw [if_neg Cq] at ay
    refine Sk (au (Sr (Ve ?_)))
    refine Am ?_
    refine Qn (Cp rfl (fun Ic => ?_) (fun Ic => ?_))
    · have Pd : st = 2 := Ic
      refine bq (aT (aT (gX rfl (aT (aV (aj ?_))))))
      refine Sr (Mv ?_)
      refine Vv (Gives.iD rfl rfl) (Qn ?_)
      refine Cp rfl (fun Id => ?_) (fun Id => ?_)
      · rw [if_pos ⟨Pd, Id⟩] at ay
        refine Sr (Mv ?_)
        refine Vv (Gives.nilCheck rfl) (Vf ?_)
        refine bW H4 (h := fun we Hd => ?_)
        refine Nx (Mv ?_)
        refine bH (Vd rest (by omega) (hT _ Hd.kept)) rfl rfl (fun v' wf hv => ?_)
        obtain ⟨⟨n, ev, bn, rfl, LW, Oh, X5⟩, dK⟩ := hv
        have He := Hd.keep dK
        refine Mv ?_
        refine Vx ?_
        refine Vx ?_
        refine Am ?_
        refine Am ?_
        refine Qn (au (Sr (Mv ?_)))
        refine Vv (Gives.iD rfl rfl) (Qn ?_)
        refine Cp rfl (fun Ie => ?_) (fun Ie => ?_)
        · have Wx : rest = iA := Ie
          have Yi : nG rest = some (-1) := by unfold nG; rw [if_pos Wx]
          rw [Yi] at ay
          refine aB (Am ?_)
          refine Am ?_
          refine Nx (Mv ?_)
          refine Mv ?_
          refine Vv (Gives.nilCheck rfl) (Vf ?_)
          refine Vf ?_
          refine bW He (h := fun wg Hf => ?_)
          refine Nx (Mv ?_)
          refine Vv (Gives.Oz (b := true) (.inl ⟨rfl, rfl⟩) rfl rfl) (Mv ?_)
          refine dh (t := 74) rfl (fun Sb => ?_) (fun Sb => ?_)
          · refine On (Mv ?_)
            refine On (Vl ?_)
            refine On (Mv ?_)
            refine aG (t := 77) rfl (fun Sc => ?_) (fun Sc => ?_)
            · refine Of (Of (Of (Of (Of (Ou (Ou (Of (On (Pt ?_)))))))))
              refine Pt ?_
              refine Mv ?_
              refine On (Mv ?_)
              refine On (Vv (Gives.geq rfl rfl) (On ?_))
              refine Mv ?_
              refine aG (t := 91) rfl (fun Sd => ?_) (fun Sd => ?_)
              · exact absurd Sd (by decide)
              refine On (Mv ?_)
              refine On (Vv (Gives.iD rfl rfl) (On ?_))
              refine Pf ?_
              refine Pt ?_
              refine Am ?_
              refine Qn (aM (aH (gH (aH (aL (ak (hR := ?_)))))))
              exact ⟨by rw [ay]; exact congrArg Value.bool (decide_eq_true Wx), by rw [ay]; exact (pR (p := ⟨p.wh, p.cols, -1⟩) Hf).first.turn⟩
            exact absurd (show (-1 : Int) < 0 by decide) Sc
          exact Bool.noConfusion Sb
        have Wx : ¬ rest = iA := Ie
        have Yi : nG rest = (gP rest).map fun n : Nat => ((n : Nat) : Int) := by unfold nG; rw [if_neg Wx]
        refine Sk (Sr (Mv ?_))
        refine Mv ?_
        refine Vv (Gives.nilCheck rfl) (Vf ?_)
        refine Vf ?_
        refine bW He (h := fun wi Hg => ?_)
        refine Nx (Mv ?_)
        refine Vv (Gives.Oz LW rfl rfl) (Mv ?_)
        refine dh (t := 74) rfl (fun Se => ?_) (fun Se => ?_)
        · have hat : atoiAll rest = .ok n := Oh Se
          have hnf := PS hat
          refine On (Mv ?_)
          refine On (Vl ?_)
          refine On (Mv ?_)
          refine aG (t := 77) rfl (fun Sf => ?_) (fun Sf => ?_)
          · have iY : nG rest = none := by
              rw [Yi]
              cases hq : gP rest with
              | none => rfl
              | some k =>
                have h1 := (ou.2 (show (gP rest).map (fun n : Nat => ((n : Nat) : Int)) = some (k : Int) by rw [hq]; rfl)).1
                rw [hat] at h1
                injection h1 with h1
                omega
            refine Of (Of (Of (Of (Of (Ou (Ou (Of (On (Pt ?_)))))))))
            refine Pt ?_
            refine Mv ?_
            refine On (Mv ?_)
            refine On (Vv (Gives.geq rfl rfl) (On ?_))
            refine Mv ?_
            refine aG (t := 91) rfl (fun Sg => ?_) (fun Sg => ?_)
            · exact absurd Sg (by omega)
            refine On (Mv ?_)
            refine On (Vv (Gives.iD rfl rfl) (On ?_))
            refine Pf ?_
            refine Pt ?_
            refine Am ?_
            refine Qn (aM (aH (gH (aH (aL (ak (hR := ?_)))))))
            exact ⟨by rw [ay, iY]; exact congrArg Value.bool (decide_eq_false Wx), by rw [ay, iY]; exact mI Hg⟩
          refine On (Mv ?_)
          refine On (aN Hg (OA n hnf (hT _ Hg.kept)) (h := fun wj Hh kb => ?_))
          refine On (Mv ?_)
          refine On (Vv (Gives.iD rfl rfl) (On ?_))
          refine Mv ?_
          refine aG (t := 82) rfl (fun Sh => ?_) (fun Sh => ?_)
          · refine On (Mv ?_)
            refine On (Vv (Gives.leq rfl rfl) (On ?_))
            refine Pt ?_
            refine On (Pf ?_)
            refine Pt ?_
            refine Mv ?_
            refine aG (t := 88) rfl (fun Si => ?_) (fun Si => ?_)
            · have vQ : nG rest = some n := by rw [Yi]; exact ou.1 ⟨hat, by omega, by assumption, Si⟩
              refine On (Mv ?_)
              refine On (Vv (Gives.geq rfl rfl) (On ?_))
              refine Mv ?_
              refine aG (t := 91) rfl (fun Sj => ?_) (fun Sj => ?_)
              · refine Of (Of (On (Pt ?_)))
                refine Pt ?_
                refine Am ?_
                refine Qn (aM (aH (gH (aH (aL (ak (hR := ?_)))))))
                exact ⟨by rw [ay, vQ]; rfl, by rw [ay, vQ]; exact (pR (p := ⟨p.wh, p.cols, n⟩) Hh).first.turn⟩
              exact absurd (show 0 ≤ n by omega) Sj
            have iY : nG rest = none := by
              rw [Yi]
              cases hq : gP rest with
              | none => rfl
              | some k =>
                have h1 := ou.2 (show (gP rest).map (fun n : Nat => ((n : Nat) : Int)) = some (k : Int) by rw [hq]; rfl)
                have h2 := h1.1
                rw [hat] at h2
                injection h2 with h2
                omega
            refine Of (Of (Of (Ou (Ou (Of (Pf ?_))))))
            refine Am ?_
            refine Qn (aM (aH (gH (aH (aL (ak (hR := ?_)))))))
            exact ⟨by rw [ay, iY]; rfl, by rw [ay, iY]; exact mI Hh⟩
          have iY : nG rest = none := by
            rw [Yi]
            cases hq : gP rest with
            | none => rfl
            | some k =>
              have h1 := ou.2 (show (gP rest).map (fun n : Nat => ((n : Nat) : Int)) = some (k : Int) by rw [hq]; rfl)
              have h2 := h1.1
              rw [hat] at h2
              injection h2 with h2
              exact absurd (by rw [h2]; exact h1.2.2.1) Sh
          refine Of (Of (On (Pf ?_)))
          refine On (Pf ?_)
          refine Pt ?_
          refine Mv ?_
          refine Of (Of (Of (Ou (Ou (Of (Pf ?_))))))
          refine Am ?_
          refine Qn (aM (aH (gH (aH (aL (ak (hR := ?_)))))))
          exact ⟨by rw [ay, iY]; rfl, by rw [ay, iY]; exact mI Hh⟩
        have iY : nG rest = none := by
          rw [Yi]
          cases hq : gP rest with
          | none => rfl
          | some k => exact absurd (ou.2 (by rw [hq]; rfl)).1 (X5 (by simpa using Se) _)
        refine Of (Of (Of (Ou (Ou (Ou (Ou (Ou (Ou (Ou (Ou (Of (Pf ?_))))))))))))
        refine Mv ?_
        refine Of (Of (Of (Ou (Ou (Of (Pf ?_))))))
        refine Am ?_
        refine Qn (aM (aH (gH (aH (aL (ak (hR := ?_)))))))
        exact ⟨by rw [ay, iY]; rfl, by rw [ay, iY]; exact mI Hg⟩
      rw [if_neg (fun h => Id h.2), if_pos (.inr Pd)] at ay
      refine aY (aA ?_)
      exact aS () ⟨rfl, rfl, rfl, trivial⟩ ⟨ay, H4⟩
    have Pd : ¬ st = 2 := Ic
    rw [if_neg (fun h => Pd h.1)] at ay
    refine Sk (Sr (Ve ?_))
    refine Am ?_
    refine Qn (Cp rfl (fun If => ?_) (fun If => ?_))
    · have Sl : st = 1 ∨ st = 2 := .inl If
      rw [if_pos Sl] at ay
      refine bq (aT (gX rfl (aT (gX rfl (aT (aV ?_))))))
      exact aS () ⟨rfl, rfl, rfl, trivial⟩ ⟨ay, H4⟩
    rw [if_neg (by omega)] at ay
    refine Sk (bq (gX rfl (aT (gX rfl (aT (gX rfl (Pj (aV (aj ?_)))))))))
    refine Sr (Am ?_)
    refine Qn (aM (ak (hR := ?_)))
    exact ⟨by rw [ay]; rfl, by rw [ay]; exact mI H4⟩
  rintro _ τ wk ⟨hres2, Hi⟩
  simp only [cZ, like, bC, bZ]
  refine au (Sr (Mv ?_))
  refine Vv (Gives.nilCheck rfl) (Vf ?_)
  refine bW Hi (h := fun wl Hj => ?_)
  refine Nx (Mv ?_)
  refine bH (R3 rest (by omega) (hT _ Hj.kept)) rfl rfl (fun v' wm hv => ?_)
  obtain ⟨⟨b14, rfl⟩, dK⟩ := hv
  have Hk := Hj.keep dK
  obtain ⟨name, Xh⟩ : ∃ name, name = (iN rest).1 := ⟨_, rfl⟩
  obtain ⟨text, UA⟩ : ∃ text, text = (iN rest).2 := ⟨_, rfl⟩
  have zV : text.length ≤ 1000000 := by have := (Fw rest).2; rw [UA]; omega
  unfold MJ at hres2
  rw [← hwd, ← Pb, ← Xh, ← UA] at hres2
  rw [← Xh, ← UA]
  refine Mv ?_
  refine Vx ?_
  refine Vx ?_
  refine Vx ?_
  refine Am ?_
  refine Am ?_
  refine Am ?_
  refine Nx (Mv ?_)
  refine eX Hk (Fx text zV (hT _ Hk.kept)) (h := fun x wn _ Hl kc => ?_)
  obtain ⟨B, cb, rfl, EP, hB⟩ := Sep.fJ Hl At0
  refine Mv ?_
  refine Vx ?_
  refine Vx ?_
  refine Am ?_
  refine Am ?_
  refine Nx (Mv ?_)
  refine Mv ?_
  refine Vv (Gives.nilCheck rfl) (Vf ?_)
  refine Vf ?_
  refine Ld Hl ?_
  refine Mv ?_
  refine Mv ?_
  refine Vv (Gives.build (out := bO (name, .slice B (bN text).1.length cb)) (Fills.one rfl rfl rfl (by simp) rfl (Fills.one rfl rfl rfl (by simp) rfl Fills.nil))) (aX Hl (xs := [.tmp 118]) (out := [(name, Value.slice B (bN text).1.length cb)].flatMap bO) (aU.many rfl rfl aU.nil) rfl rfl rfl (fun bs wo Hm kd => ?_))
  refine gK Hm (news := [(name, Value.slice B (bN text).1.length cb)]) At3 (by unfold maxLen; simp; omega) (by simp; omega) (uU rfl) (h := ?_)
  intro v2 wp Hn
  obtain ⟨A2, c2, rfl, Xc, hA2⟩ := Sep.fJ Hn At3
  refine Vv (Gives.nilCheck rfl) (Vf ?_)
  refine Vf ?_
  refine bW Hn (h := fun wq Ho => ?_)
  refine Nx (Mv ?_)
  refine Mv ?_
  refine dh (t := 125) rfl (fun Sm => ?_) (fun Sm => ?_)
  · have YP : (lF text).isSome = true := Sm
    refine On (Mv ?_)
    refine On (Vv (Gives.iD rfl rfl) (Pt ?_))
    refine Mv ?_
    refine aG (t := 129) rfl (fun Sn => ?_) (fun Sn => ?_)
    · have hwo : wd = Ey := Sn
      refine On (Mv ?_)
      refine On (aN Ho (E8 _) (h := fun wr Hp ke => ?_))
      refine Pt ?_
      refine Am ?_
      refine Qn (Rs (aH (aL (ak (hR := ?_)))))
      cases hq : dG name with
      | false => exact ⟨by rw [hres2, if_neg (fun h => by rw [hq] at h; cases h.2)]; rfl, by rw [hres2, if_neg (fun h => by rw [hq] at h; cases h.2)]; exact mI Hp⟩
      | true =>
        have ER : lF text = some (bN text).1 := by
          unfold lF at YP ⊢
          split at YP
          · rename_i h1; rw [if_pos h1]
          cases YP
        refine ⟨by rw [hres2, if_pos ⟨hwo, hq⟩, ER]; rfl, ?_⟩
        rw [hres2, if_pos ⟨hwo, hq⟩, ER]
        have HA := (qL (n := name) (Hp.qX.dS)).lD.lD.lD
        exact (pR (p := ⟨p.wh, p.cols ++ [⟨name, (bN text).1⟩], p.group⟩) HA).first.turn
    have hwo : ¬ wd = Ey := Sn
    refine Of (Of (Pf ?_))
    refine Am ?_
    refine Qn (Rs (aH (aL (ak (hR := ?_)))))
    exact ⟨by rw [hres2, if_neg (fun h => hwo h.1)]; rfl, by rw [hres2, if_neg (fun h => hwo h.1)]; exact mI Ho⟩
  have iY : lF text = none := by
    cases hq : lF text with
    | none => rfl
    | some l => rw [hq] at Sm; exact Bool.noConfusion Sm
  refine Of (Of (Pf ?_))
  refine Mv ?_
  refine Of (Of (Pf ?_))
  refine Am ?_
  refine Qn (Rs (aH (aL (ak (hR := ?_)))))
  exact ⟨by rw [hres2, iY]; split <;> rfl, by rw [hres2, iY]; split <;> exact mI Ho⟩
end
def jG (l : List UInt8) : List UInt8 := l ++ [10]
theorem Kv {a b : List UInt8} (h : jG a = jG b) : a = b := List.append_cancel_right h
theorem zm : ∀ {a b : List (List UInt8)}, a.map jG = b.map jG → a = b
 | [], [], _ => rfl
 | [], b :: l, h => by cases h
 | a :: l, [], h => by cases h
 | a :: l, b :: m, h => by
  injection h with h1 h2
  rw [Kv h1, zm h2]
def ow (s : List UInt8) : List (List UInt8) := (bT 10 s).dropLast.map jG ++ (if (bT 10 s).getLast? = some [] then [] else [(bT 10 s).getLastD []])
def Fy (s : List UInt8) : List (List UInt8) := if (dU s).2 = true then (dU s).1 else (dU s).1.dropLast
theorem Kw : ow [] = [] := rfl
theorem G6 {l : List UInt8} (h : Lib.indexByte l 10 = -1) : bT 10 l = [l] :=
 qp fun c hc e => by
  obtain ⟨k, hk⟩ := List.getElem?_of_mem hc
  exact Lib.indexByte_none h k (by rw [hk, e])
theorem zn {l : List UInt8} {o : Nat} (h : Lib.indexByte l 10 = o) : o < l.length ∧ l.take (o + 1) = jG (l.take o) ∧ bT 10 l = l.take o :: bT 10 (l.drop (o + 1)) := by
 obtain ⟨h1, h2⟩ := Lib.indexByte_some h
 have bU := (List.getElem?_eq_some_iff.1 h1).1
 have e : l = l.take o ++ 10 :: l.drop (o + 1) := by
  have e1 : l.drop o = 10 :: l.drop (o + 1) := by
   rw [List.drop_eq_getElem_cons bU]
   congr 1
   rw [List.getElem?_eq_getElem bU] at h1
   injection h1
  conv => lhs; rw [← List.take_append_drop o l, e1]
 refine ⟨bU, by rw [List.take_add_one, h1]; rfl, ?_⟩
 have := rV (sep := 10) (w := l.take o) (l := l.drop (o + 1)) fun c hc e => by
  obtain ⟨k, hk⟩ := List.getElem?_of_mem hc
  rw [List.getElem?_take] at hk
  split at hk
  ·exact h2 k (by omega) (by rw [hk, e])
  cases hk
 rw [← this, ← e]
theorem PU {l : List UInt8} (h : Lib.indexByte l 10 = -1) (fM : l ≠ []) : ow l = [l] := by
 unfold ow
 rw [G6 h]
 simp [fM]
theorem PV {l : List UInt8} {o : Nat} (h : Lib.indexByte l 10 = o) : ow l = l.take (o + 1) :: ow (l.drop (o + 1)) := by
 obtain ⟨_, h2, h3⟩ := zn h
 have fM := vU (l.drop (o + 1))
 unfold ow
 rw [h3, h2]
 cases hs : bT 10 (l.drop (o + 1)) with
 | nil => exact absurd hs fM
 | cons a r =>
  rw [List.dropLast_cons_of_ne_nil (by simp)]
  simp
theorem MW {s : List UInt8} : ∀ w ∈ bT 10 s, ∀ c ∈ w, c ≠ 10 := by
 induction s with
 | nil => intro w hw c hc; simp [bT] at hw; subst hw; cases hc
 | cons x l ih =>
  intro w hw c hc
  by_cases hx : x = 10
  ·rw [bT, if_pos hx] at hw
   rcases List.mem_cons.1 hw with rfl | hw
   ·cases hc
   exact ih w hw c hc
  obtain ⟨w1, ws, e1, e2⟩ := mU (sep := 10) (l := l) hx
  rw [e2] at hw
  rw [e1] at ih
  rcases List.mem_cons.1 hw with rfl | hw
  ·rcases List.mem_cons.1 hc with rfl | hc
   ·exact hx
   exact ih w1 (by simp) c hc
  exact ih w (List.mem_cons_of_mem _ hw) c hc
theorem Ky (s : List UInt8) : ∃ T, ow s = (Fy s).map jG ++ T ∧ ((T = [] ∧ (dU s).2 = true) ∨ (∃ x, T = [x] ∧ (dU s).2 = false ∧ ∀ c ∈ x, c ≠ 10)) := by
 have fM := vU s
 unfold ow Fy dU
 by_cases h : (bT 10 s).getLast? = some []
 ·rw [if_pos h, if_pos h]
  exact ⟨[], by simp, .inl ⟨rfl, rfl⟩⟩
 rw [if_neg h, if_neg h]
 refine ⟨[(bT 10 s).getLastD []], by simp, .inr ⟨_, rfl, rfl, ?_⟩⟩
 refine MW (s := s) _ ?_
 rw [List.getLastD_eq_getLast?, List.getLast?_eq_some_getLast fM]
 exact List.getLast_mem fM
theorem MX {s : List UInt8} {ls : List (List UInt8)} {x : List UInt8} (h : ls.map jG ++ [x] <+: ow s) : (∃ l rest, x = jG l ∧ Fy s = ls ++ l :: rest) ∨ ((dU s).2 = false ∧ ls = Fy s ∧ ∀ c ∈ x, c ≠ 10) := by
 obtain ⟨T, hT, hc⟩ := Ky s
 obtain ⟨t, ht⟩ := h
 rw [hT, List.append_assoc, List.singleton_append] at ht
 rcases List.append_eq_append_iff.1 ht with ⟨a, h1, h2⟩ | ⟨c, h1, h2⟩
 ·obtain ⟨l1, l2, e, e1, e2⟩ := List.map_eq_append_iff.1 h1
  have e1' := zm e1
  subst e1'
  cases l2 with
  | nil =>
   subst e2
   rw [List.map_nil, List.nil_append] at h2
   rcases hc with ⟨rfl, _⟩ | ⟨y, rfl, hw, hy⟩
   ·cases h2
   injection h2 with h2 _
   subst h2
   rw [List.append_nil] at e
   exact .inr ⟨hw, e.symm, hy⟩
  | cons l l2 =>
   subst e2
   injection h2 with h2 _
   exact .inl ⟨l, l2, h2, e⟩
 rcases hc with ⟨rfl, _⟩ | ⟨y, rfl, hw, hy⟩
 ·cases c <;> cases h2
 cases c with
 | nil =>
  rw [List.append_nil] at h1
  injection h2 with h2 _
  subst h2
  exact .inr ⟨hw, zm h1, hy⟩
 | cons z c => injection h2 with _ h2; cases c <;> cases h2
theorem Vi {s : List UInt8} {ls : List (List UInt8)} (h : ow s = ls.map jG) : (dU s).2 = true ∧ (dU s).1 = ls := by
 obtain ⟨T, hT, hc⟩ := Ky s
 rw [hT] at h
 rcases hc with ⟨rfl, hw⟩ | ⟨y, rfl, hw, hy⟩
 ·rw [List.append_nil] at h
  have := zm h
  unfold Fy at this
  rw [if_pos hw] at this
  exact ⟨hw, this⟩
 obtain ⟨l1, l2, e, e1, e2⟩ := List.map_eq_append_iff.1 h.symm
 cases l2 with
 | nil => cases e2
 | cons l l2 =>
  injection e2 with e2 _
  exact absurd rfl (hy 10 (by rw [← e2]; unfold jG; simp))
theorem uV (s : List UInt8) : ∀ w ∈ bT 10 s, w.length ≤ s.length := by
  induction s with
  | nil => intro w h; have : w = [] := by simpa [bT] using h
           rw [this]; simp
  | cons c l ih =>
    intro w h
    by_cases hc : c = 10
    · rw [bT, if_pos hc] at h
      rcases List.mem_cons.1 h with rfl | h
      · simp
      have := ih w h; simp only [List.length_cons]; omega
    obtain ⟨w1, ws, e1, e2⟩ := mU (sep := 10) (l := l) hc
    rw [e2] at h
    rw [e1] at ih
    rcases List.mem_cons.1 h with rfl | h
    · have := ih w1 (by simp)
      simp only [List.length_cons]; omega
    have := ih w (List.mem_cons_of_mem _ h)
    simp only [List.length_cons]; omega
theorem Vj {s x : List UInt8} (h : x ∈ ow s) : x.length ≤ s.length + 1 := by
 unfold ow at h
 rcases List.mem_append.1 h with h | h
 ·obtain ⟨y, hy, rfl⟩ := List.mem_map.1 h
  have := uV s y ((List.dropLast_sublist _).subset hy)
  unfold jG
  rw [List.length_append, List.length_singleton]; omega
 split at h
 ·cases h
 rw [List.mem_singleton] at h
 subst h
 have fM := vU s
 have := uV s _ (List.getLast_mem fM)
 rw [List.getLastD_eq_getLast?, List.getLast?_eq_some_getLast fM]
 show ((bT 10 s).getLast fM).length ≤ _
 omega
theorem R4 (s : List UInt8) : (ow s).length ≤ s.length + 1 := by
 have h1 := uQ 10 s
 have h2 : s.count 10 ≤ s.length := List.count_le_length
 have h0 : 0 < (bT 10 s).length := by omega
 unfold ow
 rw [List.length_append, List.length_map, List.length_dropLast]
 split <;> simp only [List.length_nil, List.length_cons] <;> omega
theorem Vk {J : List (List UInt8) → cB → Int → Prop} (h0 : J [] eF 0) (hs : ∀ m x p t p' t', J m p t → iO p t x = some (p', t') → J (m ++ [x]) p' t') : ∀ (ls : List (List UInt8)) {p : cB} {st : Int}, qj ls = some (p, st) → J ls p st := by
 intro ls
 have key : ∀ n (ls : List (List UInt8)), ls.length = n → ∀ {p : cB} {st : Int}, qj ls = some (p, st) → J ls p st := by
  intro n
  induction n with
  | zero =>
   intro l hl p st h
   have := List.eq_nil_of_length_eq_zero hl
   subst this
   injection h with h
   injection h with h1 h2
   subst h1; subst h2
   exact h0
  | succ n ih =>
   intro l hl p st h
   obtain ⟨m, x, rfl⟩ := GZ (show l ≠ [] by intro e; rw [e] at hl; cases hl)
   rw [CV] at h
   obtain ⟨⟨p', t'⟩, h1, h2⟩ := Option.bind_eq_some_iff.1 h
   exact hs m x p' t' p st (ih m (by rw [List.length_append, List.length_singleton] at hl; omega) h1) h2
 exact fun {p st} h => key ls.length ls rfl h
theorem MZ {p p' : cB} {t t' : Int} {x : List UInt8} (h : iO p t x = some (p', t')) : (p'.wh = p.wh ∨ ∃ y, p'.wh = (bN y).1) ∧ (p'.cols = p.cols ∨ ∃ n y, p'.cols = p.cols ++ [⟨n, (bN y).1⟩]) ∧ (t' = 1 ∨ t' = 2 ∨ t' = 3) := by
 unfold iO at h
 split at h
 ·split at h
  ·split at h
   ·injection h with h; injection h with e1 e2; subst e1; subst e2; exact ⟨.inl rfl, .inl rfl, .inl rfl⟩
   obtain ⟨y, hy, h⟩ := Option.map_eq_some_iff.1 h
   unfold lF at hy
   split at hy
   ·injection hy with hy
    injection h with e1 e2; subst e1; subst e2; exact ⟨.inr ⟨_, hy.symm⟩, .inl rfl, .inl rfl⟩
   cases hy
  cases h
 split at h
 ·obtain ⟨y, _, h⟩ := Option.map_eq_some_iff.1 h
  injection h with e1 e2; subst e1; subst e2; exact ⟨.inl rfl, .inl rfl, .inr (.inr rfl)⟩
 split at h
 ·obtain ⟨o, ho, h⟩ := Option.map_eq_some_iff.1 h
  unfold MJ at ho
  split at ho
  ·obtain ⟨l, hl, ho⟩ := Option.map_eq_some_iff.1 ho
   unfold lF at hl
   split at hl
   ·injection hl with hl
    subst hl; subst ho
    injection h with e1 e2; subst e1; subst e2; exact ⟨.inl rfl, .inr ⟨_, _, rfl⟩, .inr (.inl rfl)⟩
   cases hl
  cases ho
 cases h
def nH (p : cB) : Prop := dV p.wh ∧ ∀ o ∈ p.cols, dV o.steps
theorem Kz (ls : List (List UInt8)) {p : cB} {st : Int} (h : qj ls = some (p, st)) : p.cols.length ≤ ls.length ∧ (st = 0 ∨ st = 1 ∨ st = 2 ∨ st = 3) ∧ nH p := by
 refine Vk (J := fun ls p st => p.cols.length ≤ ls.length ∧ (st = 0 ∨ st = 1 ∨ st = 2 ∨ st = 3) ∧ nH p) ⟨Nat.le_refl _, .inl rfl, (fun x hx => absurd hx List.not_mem_nil), fun o ho => absurd ho List.not_mem_nil⟩ (fun m x p t p' t' hJ hl => ?_) ls h
 obtain ⟨h1, h2, h3, h4⟩ := hJ
 obtain ⟨c1, c2, c3⟩ := MZ hl
 rw [List.length_append, List.length_singleton]
 refine ⟨?_, by omega, ?_, fun o ho => ?_⟩
 ·rcases c2 with e | ⟨n, y, e⟩
  ·rw [e]; omega
  rw [e, List.length_append, List.length_singleton]; omega
 ·rcases c1 with e | ⟨y, e⟩
  ·rw [e]; exact h3
  rw [e]; exact sO y
 rcases c2 with e | ⟨n, y, e⟩
 ·rw [e] at ho; exact h4 o ho
 rw [e] at ho
 rcases List.mem_append.1 ho with ho | ho
 ·exact h4 o ho
 rw [List.mem_singleton] at ho
 subst ho
 exact sO y
theorem KA (x : List UInt8) : (∃ l, x = jG l ∧ Lib.trimSuffix x [10] = l ∧ Lib.hasSuffix x [10] = true) ∨ ((∀ l, x ≠ jG l) ∧ Lib.trimSuffix x [10] = x ∧ Lib.hasSuffix x [10] = false) := by
 by_cases h : Lib.hasSuffix x [10] = true
 ·have h' := h
  unfold Lib.hasSuffix at h'
  obtain ⟨l, hl⟩ := List.isSuffixOf_iff_suffix.1 h'
  refine .inl ⟨l, hl.symm, ?_, h⟩
  unfold Lib.trimSuffix
  rw [if_pos h, ← hl]
  simp
 refine .inr ⟨fun l e => h ?_, ?_, by simpa using h⟩
 ·unfold Lib.hasSuffix
  exact List.isSuffixOf_iff_suffix.2 ⟨l, e.symm⟩
 unfold Lib.trimSuffix
 rw [if_neg h]
def plJ (b2 b3 b4 b5 : Nat) (pre : List (List UInt8)) : HP := exH fun z : List (List UInt8) × cB × Int => jc [mH (pre = z.1.map jG ∧ qj z.1 = some (z.2.1, z.2.2)), blk b2 [.slice none 0 0, .slice none 0 0, I 0] 25, blk b3 [I (pre.length : Nat)] 3, blk b4 [I 0] 27, Bc b5 z.2.1 z.2.2]
def plL (b2 b3 b4 : Nat) (pre : List (List UInt8)) (x : List UInt8) : HP := jc [mH (∃ ls p st, pre = ls.map jG ∧ qj ls = some (p, st) ∧ ((∃ l, x = jG l ∧ iO p st l = none) ∨ ∀ l, x ≠ jG l)), blk b2 [.slice none 0 0, .slice none 0 0, I 0] 25, blk b3 [I (pre.length : Nat)] 3, blk b4 [I 4] 27]
theorem PW {s : List UInt8} {ls : List (List UInt8)} {x : List UInt8} {p : cB} {st : Int} (hs : s.length ≤ 1048576) (hp : ls.map jG ++ [x] <+: ow s) (hr : qj ls = some (p, st)) (hx : (∃ l, x = jG l ∧ iO p st l = none) ∨ ∀ l, x ≠ jG l) : dX s = (eF, (((ls.map jG).length : Nat) : Int), 4) := by
 rw [List.length_map]
 rcases MX hp with ⟨l, rest, e, hf⟩ | ⟨hw, hf, iY⟩
 ·rcases hx with ⟨l', e', hn⟩ | hx
  ·have : l = l' := Kv (e.symm.trans e')
   subst this
   exact MO hs hf hr hn
  exact absurd e (hx l)
 unfold Fy at hf
 rw [hw, if_neg (by decide)] at hf
 rw [hf] at hr ⊢
 exact MP hs hw hr
section
variable {w : World}
theorem M0 (l : List UInt8) : bF Tryz.prog 89 [str l, .int .u8 10] w fun v w' => v = I (Lib.indexByte l 10) ∧ w = w' :=
 l7 (Tryz.strings_IndexByte ⟨l.toArray⟩ 10 w)
theorem R5 (s : List UInt8) : bF Tryz.prog 43 [str s] w fun v w' => ∃ x : Nat, v = .func (.func 88) #[] #[bI x] ∧ True ∧ Turn noB (blk x [str s] 9) w w' := by
 have H := Sep.bB w
 refine dP Tryz.func43 rfl rfl rfl rfl ?_
 refine Sr (dz H (cs := [str s]) rfl (h := fun b1 w2 H2 k1 => ?_))
 refine Am ?_
 refine Nx (Vv (Gives.makeFunc (fs := []) (us := []) (cs := [.tmp 1]) rfl rfl) (Am ?_))
 refine Qn (aM (ak (hR := ?_)))
 exact ⟨b1, rfl, trivial, H2.turn⟩
theorem G7 (x : List UInt8) (hl : x.length ≤ 10000000) : bF Tryz.prog 44 [str x, str [10]] w fun v w' => v = .tuple #[str (Lib.trimSuffix x [10]), .bool (Lib.hasSuffix x [10])] ∧ w = w' :=
 l7 (Tryz.strings_CutSuffix ⟨x.toArray⟩ ⟨#[10]⟩ w (by rw [Mw.size_mk]; omega))
theorem M4 {S : Nat → Prop} {w₀ : World} {J : List (List UInt8) → HP} {L : List (List UInt8) → List UInt8 → HP} {l D : Nat} {ro rj : Obj} {bS : Nat} {s : List UInt8} (hl : s.length ≤ 1048576)
    (HW : Sep w₀ S [obj l ro, obj D (.deferred (some [])), J [], blk bS [str s] 9] w)
    (hy : ∀ (pre : List (List UInt8)) (x : List UInt8) (Fr : List HP) (W : World), pre ++ [x] <+: ow s → Sep w₀ S (obj l ro :: obj D (.deferred (some [])) :: J pre :: Fr) W → Jd Tryz.prog l [str x] W fun b W' => if b = true then Sep w₀ S (obj l ro :: obj D (.deferred (some [])) :: J (pre ++ [x]) :: Fr) W' else Sep w₀ S [obj l rj, obj D (.deferred (some [])), L pre x] W') :
    bF Tryz.prog 88 [.func (.yield l) #[] #[], bI bS] w fun _ W' => Sep w₀ S [obj l ro, obj D (.deferred (some [])), J (ow s)] W' ∨ ∃ pre x, pre ++ [x] <+: ow s ∧ Sep w₀ S [obj l rj, obj D (.deferred (some [])), L pre x] W' := by
  have H := HW
  refine eU Tryz.func88 rfl rfl rfl rfl ?_
  refine aF (bA (fun _ : List (List UInt8) × List UInt8 => [(0, .func (.yield l) #[] #[]), (1, bI bS)]) (fun x w' => (x.1 ++ ow x.2 = ow s ∧ x.2.length ≤ s.length) ∧ Sep w₀ S [obj l ro, obj D (.deferred (some [])), J x.1, blk bS [str x.2] 9] w') (fun x _ => x.2.length) ([], s) ⟨rfl, rfl, trivial⟩ ⟨⟨rfl, Nat.le_refl _⟩, H⟩ (fun x τ w2 hI => ?_))
  obtain ⟨pre, t⟩ := x
  obtain ⟨⟨vP, zV⟩, H2⟩ := hI
  dsimp only at vP zV H2
  try simp only [cZ, like, bC, bZ]
  refine au (Sr (Ld H2 ?_))
  refine Vt ?_
  refine Vg ?_
  refine Qn (Cp rfl (fun Cr => ?_) (fun Cr => ?_))
  · have fM : t ≠ [] := fun e => by rw [e] at Cr; exact absurd Cr (by decide)
    refine Sk (aF (Sr (Am ?_)))
    refine Qn (au (Sr (Ld H2 ?_)))
    refine dY (M0 t) (h := ?_)
    refine Am ?_
    refine Nx (Mv ?_)
    refine Vv (Gives.geq rfl rfl) (Qn ?_)
    refine Cp rfl (fun Ia => ?_) (fun Ia => ?_)
    · obtain ⟨o, ho⟩ : ∃ o : Nat, Lib.indexByte t 10 = o := ⟨(Lib.indexByte t 10).toNat, by have h1 := Ia; omega⟩
      obtain ⟨abw, hot, _⟩ := zn ho
      have hrs := PV ho
      have iV : pre ++ [t.take (o + 1)] <+: ow s := by
        rw [← vP, hrs]
        exact ⟨ow (t.drop (o + 1)), by simp⟩
      rw [ho]
      refine bG rfl H2 (h := fun Sa wa Ha => ?_)
      refine cK Sa 0 Ha (h := ?_)
      refine Gm Sa 1 ?_
      refine Gp Sa 2 rfl rfl (fun _ => (Gives.bM (c := ((o + 1 : Nat) : Int)) rfl rfl (by show (o : Int) + 1 = _; omega) (by omega))) (Gp Sa 3 rfl rfl (fun _ => (Gives.lq (i := o + 1) rfl rfl (by omega))) ?_)
      refine cK Sa 4 Ha (h := ?_)
      refine Gm Sa 5 ?_
      refine Gp Sa 6 rfl rfl (fun _ => (Gives.bM (c := ((o + 1 : Nat) : Int)) rfl rfl (by show (o : Int) + 1 = _; omega) (by omega))) (Gp Sa 7 rfl rfl (fun _ => (Gives.dW (i := o + 1) rfl rfl (by omega))) ?_)
      refine Gp Sa 8 rfl rfl (fun _ => Gives.assign rfl) (nI Sa 9 [] Ha (h := fun wb Hb => ⟨aK, ?_⟩))
      refine bR Sa (by kernel_rfl) ?_
      refine aj (Sr (Mv ?_))
      refine Mv ?_
      refine vX rfl (hy pre (t.take (o + 1)) _ _ iV Hb) rfl rfl (fun b8 wc JO => ?_)
      refine Vv (Gives.not rfl) (Qn ?_)
      refine Cd rfl (fun Ib => ?_) (fun Ib => ?_)
      · have hb : b8 = false := by have h1 := Ib; revert h1; cases b8 <;> simp
        rw [hb, if_neg (by decide)] at JO
        refine aM (aH (aR (aH (ak (hR := ?_)))))
        exact .inr ⟨pre, t.take (o + 1), iV, JO⟩
      have hb : b8 = true := by have h1 := Ib; revert h1; cases b8 <;> simp
      rw [hb, if_pos rfl] at JO
      have Hc := JO
      refine aY (aA ?_)
      exact aC (pre ++ [t.take (o + 1)], t.drop (o + 1)) ⟨rfl, rfl, trivial⟩ ⟨⟨by dsimp only; rw [← vP, hrs]; simp, by dsimp only; rw [List.length_drop]; omega⟩, Hc⟩ (by dsimp only; rw [List.length_drop]; omega)
    have Wy : Lib.indexByte t 10 = -1 := by have h1 := Ia; have h2 := Lib.indexByte_ge t 10; omega
    have hrs := PU Wy fM
    have iV : pre ++ [t] <+: ow s := by rw [← vP, hrs]; exact List.prefix_refl _
    refine aB (Ld H2 ?_)
    refine Am ?_
    refine bW H2 (h := fun wd Hd => ?_)
    refine Nx (Mv ?_)
    refine Mv ?_
    refine vX rfl (hy pre t _ _ iV Hd) rfl rfl (fun b8 we JO => ?_)
    refine Vv (Gives.not rfl) (Qn ?_)
    refine Cd rfl (fun Ic => ?_) (fun Ic => ?_)
    · have hb : b8 = false := by have h1 := Ic; revert h1; cases b8 <;> simp
      rw [hb, if_neg (by decide)] at JO
      refine aM (aH (aR (aH (ak (hR := ?_)))))
      exact .inr ⟨pre, t, iV, JO⟩
    have hb : b8 = true := by have h1 := Ic; revert h1; cases b8 <;> simp
    rw [hb, if_pos rfl] at JO
    have He := JO
    refine aY (aA ?_)
    exact aC (pre ++ [t], []) ⟨rfl, rfl, trivial⟩ ⟨⟨by dsimp only; rw [← vP, hrs, Kw, List.append_nil], by simp⟩, He⟩ (by have := List.length_pos_iff.2 fM; dsimp only; simpa using this)
  have he : t = [] := List.eq_nil_of_length_eq_zero (by omega)
  subst he
  rw [Kw, List.append_nil] at vP
  refine bq (aT (aO (aV (jC (hR := ?_)))))
  exact .inl (by rw [← vP]; exact H2.firsts (l := [_, _, _]))
end
end Go.Proofs.YtolaedhdjcnijaaGreatDoor
namespace Go.Mw
open Go.RowKit
theorem C8 {P : Program} {T U V : TypeId} {k : Nat} [Agg P T k] [OneCell P U] [OneCell P V] {σ : St} {w : World} {a b c x y z : Nat} {us : List Value} {v u : Value} {E F G : TypeId} (hx : w.heap[x]? = some (.cells us.toArray E (0, 0))) (hy : w.heap[y]? = some (.cells [v].toArray F (0, 0))) (hz : w.heap[z]? = some (.cells [u].toArray G (0, 0)))
    (hk : us.length = k := by exact rfl) (ha : σ a = .pointer (some ⟨x, 0, none⟩) := by exact rfl) (hb : σ b = .pointer (some ⟨y, 0, none⟩) := by exact rfl) (hc : σ c = .pointer (some ⟨z, 0, none⟩) := by exact rfl) : nJ P σ w [.cell a T, .cell b U, .cell c V] [.agg us.toArray, v, u] :=
  ⟨_, [v, u], ⟨x, 0, none⟩, rfl, ha, jw (k := k) hx (us := us) (by rw [List.drop_zero, ← hk, List.take_length]) hk, v, [u], ⟨y, 0, none⟩, rfl, hb, y9 hy, u, [], ⟨z, 0, none⟩, rfl, hc, y9 hz, rfl⟩
end Go.Mw
namespace Go.Proofs.YtolaedhdjcnijaaGreatDoor
open Go Go.Mw Go.Lib
set_option maxRecDepth 4000
theorem iC {α : Type} {w : World} {enc : α → List Value} {k : Nat} : dn w (.slice none 0 0) enc k [] := ⟨none, 0, rfl, ⟨Nat.le_refl _, by decide⟩, iI.nil _ _ _⟩
theorem uW (w : World) : fD w (agg [.slice none 0 0, .slice none 0 0, I 0]) eF := ⟨_, _, rfl, iC, [], iC, lJ.nil⟩
section
variable {w w₀ : World} {S : Nat → Prop} {rs : List HP}
theorem jO {F : Nat → Prop} (H : Mw.Sep w₀ F rs w) : Turn F (qK (agg [.slice none 0 0, .slice none 0 0, I 0]) eF) w₀ w := (Sep.GV H uW).first.turn
theorem G8 {b : Nat} {p : cB} {st : Int} {vw vc : Value} {r : List (List UInt8 × Value)} (H : Mw.Sep w₀ S (blk b [vw, vc, I p.group, I st] 74 :: zh vw aI 3 p.wh :: cO 53 2 bO vc r :: qJ r p.cols :: rs) w) : fD w (agg [vw, vc, I p.group]) p :=
 ⟨vw, vc, rfl, Sep.sees H At1, r, gQ H At2, Sep.sees H At3⟩
theorem sW (s : List UInt8) (hl : s.length ≤ 900000 ∨ 1048576 < s.length) (yU : s.length ≤ 1000000000) (hT : je w) : bF Tryz.prog 15 [str s] w fun v w' => ∃ x, v = .tuple #[x, I (dX s).2.1, I (dX s).2.2] ∧ True ∧ Turn noB (qK x (dX s).1) w w' := by
  have H := Sep.bB w
  obtain ⟨res, ay⟩ : ∃ res, res = dX s := ⟨_, rfl⟩
  rw [← ay]
  refine Uo Tryz.func15 rfl rfl rfl rfl ?_
  refine Sr (bD H (h := fun b2 w2 H2 k1 => ?_))
  refine bD H2 (h := fun b3 w4 H4 k3 => ?_)
  refine bD H4 (h := fun b4 w6 H6 k5 => ?_)
  refine Qn (au (Sr (Mv ?_)))
  refine Vt ?_
  refine Vg ?_
  refine Qn (Cp rfl (fun Ia => ?_) (fun Ia => ?_))
  · unfold dX at ay
    rw [if_pos (by omega)] at ay
    refine Sr (Vv (Gives.build (out := [.slice none 0 0, .slice none 0 0, I 0]) Fills.nil) (aD H6 (h := fun wa Ha => ?_)))
    refine bW Ha (h := fun wb Hb => ?_)
    refine bW Hb (h := fun wc Hc => ?_)
    refine Qn (Rs (zQ (h := ?_)))
    exact ⟨[_, I 0, I 5], C8 (Hc.obj At2) (Hc.obj At1) (Hc.obj At0), _, by rw [ay]; rfl, trivial, by rw [ay]; exact jO Hc⟩
  have rG : s.length ≤ 900000 := by omega
  have UU : s.length ≤ 1048576 := by omega
  refine Sk (Sr (bD H6 (h := fun b5 wd Hd ka => ?_)))
  refine Qn (au (Sr (Mv ?_)))
  refine bH (R5 s) rfl rfl (fun v' we hv => ?_)
  obtain ⟨bS, rfl, _, dK, F1, hq, gV⟩ := hv
  have He := Hd.new dK hq (fun b hb => (gV b hb).resolve_left id)
  refine Qn (aF ?_)
  have Eh := R4 s
  have HJ : Mw.Sep w noB (plJ b2 b3 b4 b5 [] :: [blk bS [str s] 9]) we := by
    have h0 : Mw.Sep w noB (zh (.slice none 0 0) aI 3 [] :: _) we := Sep.GV He fun _ => iC
    have h1 := ((qg (Sep.iX h0 53 2 bO)).dS.iK).qX
    have h2 := ((pR (p := eF) h1).iK.lD).qX
    exact Sep.AX (p := fun z : List (List UInt8) × cB × Int => jc [mH (([] : List (List UInt8)) = z.1.map jG ∧ qj z.1 = some (z.2.1, z.2.2)), blk b2 [.slice none 0 0, .slice none 0 0, I 0] 25, blk b3 [I (([] : List (List UInt8)).length : Nat)] 3, blk b4 [I 0] 27, Bc b5 z.2.1 z.2.2]) ([], eF, 0) (Sep.bundle (l := [mH (([] : List (List UInt8)) = ([] : List (List UInt8)).map jG ∧ qj [] = some (eF, 0)), _, _, _, _]) (Sep.nA ⟨rfl, rfl⟩ h2))
  refine Gu (gf := 88) (lb := [bI bS]) str (ow s) (plJ b2 b3 b4 b5) (plL b2 b3 b4) _ HJ rfl rfl ?_ ?_ ?_ ?_
  · intro l D ro rb pre x Fr W iV HW
    have Od : x ∈ ow s := iV.subset (List.mem_append_right pre (List.mem_singleton.2 rfl))
    have UO := Vj Od
    have O6 : pre.length + 1 ≤ s.length + 1 := by have := iV.length_le; rw [List.length_append, List.length_singleton] at this; omega
    refine aB (Am ?_)
    refine aP (uZ ?_)
    refine ⟨[], HW, fun WB HB => ?_⟩
    have HB2 : Mw.Sep w noB (obj l rb :: obj D (.deferred (some [])) :: plJ b2 b3 b4 b5 pre :: Fr) WB := HB
    replace HB2 := HB2.iK
    unfold plJ at HB2
    obtain ⟨⟨ls, p, st⟩, HB2⟩ := HB2.ex0
    obtain ⟨⟨UC, iP⟩, HB3⟩ := (HB2.parts).Cx
    dsimp only at UC iP HB3
    obtain ⟨pq, dJ, AP⟩ := Kz ls iP
    replace HB := HB3
    refine aF (Sr (Mv ?_))
    refine dY (G7 x (by omega)) (h := ?_)
    refine Mv ?_
    refine Vx ?_
    refine Vx ?_
    refine Am ?_
    refine Am ?_
    refine Qn (au (Sr (Mv ?_)))
    refine Vv (Gives.not rfl) (Mv ?_)
    refine dh (t := 25) rfl (fun Sa => ?_) (fun Sa => ?_)
    · have Yj : Lib.hasSuffix x [10] = false := by simpa using Sa
      have iY : ∀ l, x ≠ jG l := by
        rcases KA x with ⟨_, _, _, h⟩ | ⟨h, _⟩
        · rw [Yj] at h; cases h
        exact h
      have mF : ∃ ls p st, pre = ls.map jG ∧ qj ls = some (p, st) ∧ ((∃ l, x = jG l ∧ iO p st l = none) ∨ ∀ l, x ≠ jG l) := ⟨ls, p, st, UC, iP, .inr iY⟩
      refine Of (Of (Of (Pt ?_)))
      refine Qn (aQ rfl ?_)
      refine au (bG rfl HB (h := fun Sb wf Hf => ?_))
      refine Gp Sb 0 rfl rfl (fun _ => (Gives.build (out := [.slice none 0 0, .slice none 0 0, I 0]) Fills.nil)) (cK Sb 1 Hf (h := ?_))
      refine dF Sb 2 [(1, false)] Hf (h := fun wg Hg => ⟨bQ Hg (h := aK), ?_⟩)
      refine nI Sb 3 [] Hg (h := fun wi Hh => ⟨aK, ?_⟩)
      refine nI Sb 4 [] Hh (h := fun wj Hi => ⟨aK, ?_⟩)
      refine bR Sb (by kernel_rfl) ?_
      refine aj (Rs (aH (tu ?_)))
      exact (Sep.bundle (l := [mH (∃ ls p st, pre = ls.map jG ∧ qj ls = some (p, st) ∧ ((∃ l, x = jG l ∧ iO p st l = none) ∨ ∀ l, x ≠ jG l)), _, _, _]) (rs := [_, _]) (Sep.nA mF ((Hi.lD).fI.firsts (l := [_, _, _, _, _])))).Di
    have Yj : Lib.hasSuffix x [10] = true := by simpa using Sa
    obtain ⟨l0, Ye, UD⟩ : ∃ l0, x = jG l0 ∧ Lib.trimSuffix x [10] = l0 := by
      rcases KA x with ⟨l0, h1, h2, _⟩ | ⟨_, _, h⟩
      · exact ⟨l0, h1, h2⟩
      rw [Yj] at h; cases h
    have Yk : l0.length ≤ s.length + 1 := by have h1 := UO; rw [Ye] at h1; unfold jG at h1; rw [List.length_append, List.length_singleton] at h1; omega
    have adH : ls.length = pre.length := by rw [UC, List.length_map]
    rw [UD]
    refine On (Mv ?_)
    refine On ?_
    obtain ⟨F0, gu, nk, bJ⟩ := HB.focus At3
    refine bH (Vh l0 gu dJ (by omega) (by omega) fun w' hk => hT.keep (HB.kept.trans hk nk)) rfl rfl (fun v' wk hv => ?_)
    obtain ⟨rfl, dK, F1, hq, gV⟩ := hv
    have Hj := bJ _ F1 _ dK hq gV
    refine On (Vv (Gives.not rfl) (Pf ?_))
    refine Qn (Cd rfl (fun Ib => ?_) (fun Ib => ?_))
    · have qV : iO p st l0 = none := by
        have h1 := Ib
        cases hq : iO p st l0 with
        | none => rfl
        | some y => rw [hq] at h1; cases h1
      have mF : ∃ ls p st, pre = ls.map jG ∧ qj ls = some (p, st) ∧ ((∃ l, x = jG l ∧ iO p st l = none) ∨ ∀ l, x ≠ jG l) := ⟨ls, p, st, UC, iP, .inl ⟨l0, Ye, qV⟩⟩
      refine au (bG rfl Hj (h := fun Sc wl Hk => ?_))
      refine Gp Sc 0 rfl rfl (fun _ => (Gives.build (out := [.slice none 0 0, .slice none 0 0, I 0]) Fills.nil)) (cK Sc 1 Hk (h := ?_))
      refine dF Sc 2 [(1, false)] Hk (h := fun wm Hl => ⟨bQ Hl (h := aK), ?_⟩)
      refine nI Sc 3 [] Hl (h := fun wn Hm => ⟨aK, ?_⟩)
      refine nI Sc 4 [] Hm (h := fun wo Hn => ⟨aK, ?_⟩)
      refine bR Sc (by kernel_rfl) ?_
      refine aj (Rs (aH (tu ?_)))
      exact (Sep.bundle (l := [mH (∃ ls p st, pre = ls.map jG ∧ qj ls = some (p, st) ∧ ((∃ l, x = jG l ∧ iO p st l = none) ∨ ∀ l, x ≠ jG l)), _, _, _]) (rs := [_, _]) (Sep.nA mF ((Hn.lD).fI.firsts (l := [_, _, _, _, _])))).Di
    obtain ⟨⟨p', st'⟩, YQ⟩ : ∃ y, iO p st l0 = some y := by
      have h1 := Ib
      cases hq : iO p st l0 with
      | none => rw [hq] at h1; cases h1
      | some y => exact ⟨y, rfl⟩
    rw [YQ] at Hj
    have aby : pre ++ [x] = (ls ++ [l0]).map jG := by rw [List.map_append, UC, Ye]; rfl
    have aag : qj (ls ++ [l0]) = some (p', st') := by rw [CV, iP]; exact YQ
    refine Sk (aB (Ld Hj ?_))
    refine Vv (Gives.bM (c := (((pre ++ [x]).length : Nat) : Int)) rfl rfl (by rw [List.length_append, List.length_singleton]; omega) (by rw [List.length_append, List.length_singleton]; omega)) ?_
    refine bW Hj (h := fun wp Ho => ?_)
    refine aP (aA (xW ?_))
    exact (Sep.AX (p := fun z : List (List UInt8) × cB × Int => jc [mH (pre ++ [x] = z.1.map jG ∧ qj z.1 = some (z.2.1, z.2.2)), blk b2 [.slice none 0 0, .slice none 0 0, I 0] 25, blk b3 [I ((pre ++ [x]).length : Nat)] 3, blk b4 [I 0] 27, Bc b5 z.2.1 z.2.2]) (ls ++ [l0], p', st') (Sep.bundle (l := [mH (pre ++ [x] = (ls ++ [l0]).map jG ∧ qj (ls ++ [l0]) = some (p', st')), _, _, _, _]) (Sep.nA ⟨aby, aag⟩ Ho))).Di
  · intro l D ro rj W HW hy
    exact M4 UU HW hy
  rotate_left 1
  · intro D W pre x iV HD
    obtain ⟨⟨ls, p, st, UC, iP, mF⟩, HD2⟩ := ((HD.dS).parts).Cx
    subst UC
    rw [PW UU iV iP mF] at ay
    exact aH (aL (sw HD2 At3 (fun w1 H1 => ⟨[_, _, I 4], C8 (H1.obj At0) (H1.obj At1) (H1.obj At2), _, by rw [ay]; rfl, trivial, by rw [ay]; exact jO H1⟩)))
  intro D wq Hp
  have Hp := Hp.dS
  unfold plJ at Hp
  obtain ⟨⟨ls, p, st⟩, Hp⟩ := Hp.ex0
  obtain ⟨⟨UC, iP⟩, Hp⟩ := (Hp.parts).Cx
  dsimp only at UC iP Hp
  obtain ⟨pq, dJ, AP⟩ := Kz ls iP
  obtain ⟨Yl, YR⟩ := Vi UC
  have bY := MN UU Yl (by rw [YR]; exact iP)
  rw [← ay, YR] at bY
  have hlen : (ow s).length = ls.length := by rw [UC, List.length_map]
  rw [hlen] at Hp
  obtain ⟨vw, vc, r, Hp⟩ := CZ (Hp.lD)
  obtain ⟨Aw, cw, rfl, _⟩ := (Sep.sees Hp At1 : dn _ vw aI 3 p.wh)
  obtain ⟨Ac, cc, rfl, Uq, hRc⟩ := Sep.fJ Hp At2 --on
  refine aA (aj (au (Sr (Vf ?_))))
  refine Ld Hp ?_
  refine Vn ?_
  refine Qn (Cp rfl (fun Ic => ?_) (fun Ic => ?_))
  · rw [if_pos Ic] at bY
    refine au (bG rfl Hp (h := fun Sd wr Hq => ?_))
    refine Gp Sd 0 rfl rfl (fun _ => (Gives.build (out := [.slice none 0 0, .slice none 0 0, I 0]) Fills.nil)) (cK Sd 1 Hq (h := ?_))
    refine dF Sd 2 [(1, false)] Hq (h := fun ws Hr => ⟨bQ Hr (h := aK), ?_⟩)
    refine nI Sd 3 [] Hr (h := fun wt Hs => ⟨aK, ?_⟩)
    refine nI Sd 4 [] Hs (h := fun wu Ht => ⟨aK, ?_⟩)
    refine bR Sd (by kernel_rfl) ?_
    refine aj (Rs (sw Ht At7 (hR := fun wv Hu => ?_)))
    exact ⟨[_, _, I 4], C8 (Hu.obj At4) (Hu.obj At5) (Hu.obj At6), _, by rw [bY]; rfl, trivial, by rw [bY]; exact jO Hu⟩
  rw [if_neg Ic] at bY
  refine Sk (au (Sr (Vf ?_)))
  refine p8 Hp (us := [.slice Aw p.wh.length cw, .slice Ac r.length cc, I p.group]) (hu := rfl) (hk := rfl) (h := ?_)
  have O6 := G8 Hp
  refine aN Hp (Fj O6 AP.1 AP.2 (by omega) (hT.keep Hp.kept)) (h := fun ww Hv kb => ?_)
  refine Mv ?_
  refine Vx ?_
  refine Vx ?_
  refine Am ?_
  refine Am ?_
  refine Nx (Mv ?_)
  refine Vn ?_
  refine Qn (Cp rfl (fun Id => ?_) (fun Id => ?_))
  · have uy : qY p = false := by
      cases hq : qY p with
      | false => rfl
      | true => have h1 := Id; unfold nR at h1; rw [hq, if_neg (by decide)] at h1; exact absurd rfl h1
    have ht2 : (nR p).2 = 2 := by unfold nR; rw [if_pos uy]
    rw [if_pos uy] at bY
    refine Sr (Vv (Gives.build (out := [.slice none 0 0, .slice none 0 0, I 0]) Fills.nil) (Mv ?_))
    refine aD Hv (h := fun wx Hw => ?_)
    refine bW Hw (h := fun wy Hx => ?_)
    refine bW Hx (h := fun wz Hy => ?_)
    refine Qn (Rs (sw Hy At7 (hR := fun wA Hz => ?_)))
    exact ⟨[_, I 0, _], C8 (Hz.obj At4) (Hz.obj At5) (Hz.obj At6), _, by rw [bY, ht2]; rfl, trivial, by rw [bY]; exact jO Hz⟩
  have uy : qY p = true := by
    cases hq : qY p with
    | true => rfl
    | false => have h1 := Id; unfold nR at h1; rw [if_pos hq] at h1; exact absurd (by decide) h1
  rw [if_neg (by rw [uy]; decide)] at bY
  refine Sk (Sr (Vf ?_))
  refine p8 Hv (us := [.slice Aw p.wh.length cw, .slice Ac r.length cc, I p.group]) (hu := rfl) (hk := rfl) (h := ?_)
  refine aD Hv (h := fun wB HA => ?_)
  refine bW HA (h := fun wC HC => ?_)
  refine bW HC (h := fun wD HE => ?_)
  refine Qn (aM (sw HE At7 (hR := fun wE HF => ?_)))
  exact ⟨[_, I 0, I 0], C8 (HF.obj At4) (HF.obj At5) (HF.obj At6), _, by rw [bY]; rfl, trivial, by rw [bY]; exact (uP (g := p.group) HF.fI).first.turn⟩
end
theorem Fz {s : List UInt8} {w : List bL} (h : lN s = some w) : dV w := by
 unfold lN at h
 obtain ⟨t, _, h⟩ := Option.bind_eq_some_iff.1 h
 split at h
 ·cases h
 split at h
 ·injection h with h; subst h; exact fun x hx => absurd hx List.not_mem_nil
 split at h
 ·injection h with h; subst h; exact sO t
 cases h
theorem Vm {s : List UInt8} {o : jM} (h : qd s = some o) : dV o.steps := by
 unfold qd at h
 obtain ⟨t, _, h⟩ := Option.bind_eq_some_iff.1 h
 obtain ⟨x, _, h⟩ := Option.bind_eq_some_iff.1 h
 split at h
 ·injection h with h; subst h; exact sO _
 cases h
theorem C9 : ∀ ls : List (List UInt8), ∀ o ∈ gW ls, dV o.steps
 | [], o, ho => absurd ho List.not_mem_nil
 | s :: l, o, ho => by
  rw [gW] at ho
  cases hs : qd s with
  | none => rw [hs] at ho; exact absurd ho List.not_mem_nil
  | some x =>
   rw [hs] at ho
   rcases List.mem_cons.1 ho with rfl | ho
   ·exact Vm hs
   exact C9 l o ho
theorem Ez : nH eF ∧ eF.cols.length ≤ 16 := ⟨⟨fun x hx => absurd hx List.not_mem_nil, fun o ho => absurd ho List.not_mem_nil⟩, by decide⟩
theorem Bd (s : List UInt8) : nH (dX s).1 ∧ (dX s).1.cols.length ≤ 16 := by
 unfold dX
 split
 ·exact Ez
 dsimp only
 obtain ⟨many, Eh⟩ : ∃ m, m = if (dU s).2 = true then (dU s).1.length else (dU s).1.length - 1 := ⟨_, rfl⟩
 rw [← Eh]
 split
 ·exact Ez
 split
 ·exact Ez
 rename_i wv hw
 split
 ·exact Ez
 split
 ·exact Ez
 split
 ·exact Ez
 split
 ·exact Ez
 rename_i hm
 have xK := (jm.1 (eq_true_of_ne_false hm)).1
 exact ⟨⟨Fz hw, C9 _⟩, (mR xK).1.2.1⟩
def slash (l : List UInt8) : List UInt8 := l.flatMap fun c => if c = 47 then [10] else [c]
theorem FB (l : List UInt8) : (slash l).length = l.length := by
 unfold slash
 induction l with
 | nil => rfl
 | cons c l ih => rw [List.flatMap_cons, List.length_append, ih, List.length_cons]; split <;> simp <;> omega
def back (l : List UInt8) : List UInt8 := l.map fun c => if c = 10 then 47 else c
def XC : List (List UInt8) := U6.map back
def XD : List (List UInt8) := RQ.map fun x => back x.1
theorem WU : XC.map slash = U6 ∧ XD.map slash = RQ.map (·.1) := by decide +kernel
theorem uX (i : Nat) {s : List UInt8} {p : cB} (hs : XC[i]? = some s) (hp : uH[i]? = some p) : dX (slash s) = (p, 0, 0) := by
 have h1 : (U6)[i]? = some (slash s) := by rw [← WU.1, List.getElem?_map, hs]; rfl
 rw [← RP.2, List.getElem?_map, hp] at h1
 injection h1 with h1
 have hm := List.all_eq_true.1 RP.1 p (List.mem_of_getElem? hp)
 have hf : nH p := by
  have key : ∀ q ∈ uH, nH q := by
   unfold uH
   intro q hq
   simp only [List.mem_cons, List.not_mem_nil, or_false] at hq
   rcases hq with rfl | rfl | rfl | rfl | rfl <;>
   ·refine ⟨fun x hx => ?_, fun o ho x hx => ?_⟩
    ·simp at hx
     try (rcases hx with rfl | rfl | rfl)
     all_goals (first | (subst hx; unfold fits; decide) | (unfold fits; decide))
    simp at ho
    first
    | (rcases ho with rfl | rfl <;> simp at hx <;> (first | (subst hx; unfold fits; decide) | (rcases hx with rfl | rfl <;> (unfold fits; decide)) | (rcases hx with rfl | rfl | rfl <;> (unfold fits; decide))))
    | (subst ho; simp at hx; subst hx; unfold fits; decide)
  exact key p (List.mem_of_getElem? hp)
 rw [← h1]
 refine Py hm hf.1 hf.2 ?_
 have hl : ∀ q ∈ uH, (jJ (iQ q)).length ≤ 100 := by decide +kernel
 have := hl p (List.mem_of_getElem? hp)
 omega
theorem ql (i : Nat) {s x : List UInt8} {n e : Int} (hs : XD[i]? = some s) (hx : RQ[i]? = some (x, n, e)) : dX (slash s) = (eF, n, e) := by
 have h1 : (RQ.map (·.1))[i]? = some (slash s) := by rw [← WU.2, List.getElem?_map, hs]; rfl
 rw [List.getElem?_map, hx] at h1
 injection h1 with h1
 have := U7 _ (List.mem_of_getElem? hx)
 rw [← h1]
 exact this
end Go.Proofs.YtolaedhdjcnijaaGreatDoor
