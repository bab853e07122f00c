/-
 Cells, steps, and what an expression gives, told plainly. No program stands here.
-/
import Derived.Test.YtmkaahkbhdlniaaGreatDoorEv6
import Derived.Lib.ItoaNum
import Derived.Lib.ParseIntBTie
import Derived.Lib.Bytealg
import Derived.Test.YtmkaahkbhdlniaaGreatDoorEv4
import Derived.Test.YtmkaahkbhdlniaaGreatDoorEv5
import Derived.Laws.BitsLemmas
import Derived.Lib.AppendStr
set_option linter.unusedVariables false
set_option linter.unusedSimpArgs false
namespace Go.Proofs.YtmkaahkbhdlniaaGreatDoor
open Go Go.Lib

structure TypeM where
 kind : Int
 null : Bool
structure CellM where
 null : Bool
 n : Int
 s : List UInt8
structure ColM where
 id : Int
 name : List UInt8
 type : TypeM
 dflt : CellM
structure StepM where
 kind : Int
 n : Int
 s : List UInt8
theorem TypeM.ext' {a b : TypeM} (h1 : a.kind = b.kind) (h2 : a.null = b.null) : a = b := by cases a; cases b; simp_all
theorem CellM.ext' {a b : CellM} (h1 : a.null = b.null) (h2 : a.n = b.n) (h3 : a.s = b.s) : a = b := by cases a; cases b; simp_all
theorem StepM.ext' {a b : StepM} (h1 : a.kind = b.kind) (h2 : a.n = b.n) (h3 : a.s = b.s) : a = b := by cases a; cases b; simp_all
theorem ColM.ext' {a b : ColM} (h1 : a.id = b.id) (h2 : a.name = b.name) (h3 : a.type = b.type) (h4 : a.dflt = b.dflt) : a = b := by cases a; cases b; simp_all
instance : DecidableEq TypeM := fun a b => decidable_of_iff (a.kind = b.kind ∧ a.null = b.null) ⟨fun h => TypeM.ext' h.1 h.2, fun h => by subst h; exact ⟨rfl, rfl⟩⟩
instance : DecidableEq CellM := fun a b => decidable_of_iff (a.null = b.null ∧ a.n = b.n ∧ a.s = b.s) ⟨fun h => CellM.ext' h.1 h.2.1 h.2.2, fun h => by subst h; exact ⟨rfl, rfl, rfl⟩⟩
instance : DecidableEq StepM := fun a b => decidable_of_iff (a.kind = b.kind ∧ a.n = b.n ∧ a.s = b.s) ⟨fun h => StepM.ext' h.1 h.2.1 h.2.2, fun h => by subst h; exact ⟨rfl, rfl, rfl⟩⟩
instance : DecidableEq ColM := fun a b => decidable_of_iff (a.id = b.id ∧ a.name = b.name ∧ a.type = b.type ∧ a.dflt = b.dflt) ⟨fun h => ColM.ext' h.1 h.2.1 h.2.2.1 h.2.2.2, fun h => by subst h; exact ⟨rfl, rfl, rfl, rfl⟩⟩
def cell0 : CellM := ⟨false, 0, []⟩
def cellNull : CellM := ⟨true, 0, []⟩
def type0 : TypeM := ⟨0, false⟩
/-- May a type be? -/
def mayT (t : TypeM) : Bool := decide (1 ≤ t.kind ∧ t.kind ≤ 5)
/-- Is a cell that is not nothing of a kind? -/
def isC (kind : Int) (c : CellM) : Bool :=
 if kind = 1 then decide (c.s = [] ∧ 0 ≤ c.n ∧ c.n ≤ 1)
 else if kind = 2 then decide (c.s = [] ∧ -2147483648 ≤ c.n ∧ c.n ≤ 2147483647)
 else if kind = 3 then decide (c.s = [])
 else if kind = 4 then decide (c.n = 0 ∧ c.s.length ≤ 1024 ∧ validD c.s = true)
 else decide (c.n = 0 ∧ c.s.length ≤ 1024)
def checkC (t : TypeM) (c : CellM) : Int :=
 if mayT t = false then 2 else if c.null = true then (if t.null = true ∧ c = cellNull then 0 else 90) else if isC t.kind c = true then 0 else 90
/-- May a step be? -/
def mayS (x : StepM) : Bool :=
 if x.kind = 1 then decide (x.s = [] ∧ 1 ≤ x.n ∧ x.n ≤ 1048576)
 else if x.kind = 2 then decide (x.s = [])
 else if x.kind = 3 then decide (x.s = [] ∧ 0 ≤ x.n ∧ x.n ≤ 1)
 else if x.kind = 4 then decide (x.n = 0 ∧ x.s.length ≤ 1024 ∧ validD x.s = true)
 else if x.kind = 5 then decide (x.n = 0 ∧ x.s.length ≤ 1024)
 else if x.kind = 6 then decide (x.s = [] ∧ (x.n = 1 ∨ (3 ≤ x.n ∧ x.n ≤ 5)))
 else decide (7 ≤ x.kind ∧ x.kind ≤ 18 ∧ x.n = 0 ∧ x.s = [])
/-- How many values a step takes. -/
def takesS (kind : Int) : Nat := if kind < 7 then 0 else if kind = 10 ∨ kind = 15 ∨ kind = 16 ∨ kind = 18 then 1 else 2
/-- The place of the first column of an id. -/
def findC (cols : List ColM) (id : Int) : Option Nat := cols.findIdx? fun c => decide (c.id = id)
/-- The type of what a step puts that takes nothing. -/
def leafT (cols : List ColM) (x : StepM) : Option TypeM :=
 if x.kind = 1 then (match findC cols x.n with
  | none => none
  | some i => let t := (cols.getD i ⟨0, [], type0, cell0⟩).type
   if mayT t = false then none else some (if t.kind = 2 then ⟨3, t.null⟩ else t))
 else if x.kind = 2 then some ⟨3, false⟩
 else if x.kind = 3 then some ⟨1, false⟩
 else if x.kind = 4 then some ⟨4, false⟩
 else if x.kind = 5 then some ⟨5, false⟩
 else some ⟨x.n, true⟩
/-- The type of what a step makes of two; of one: both are that one. -/
def madeT (kind : Int) (a b : TypeM) : Option TypeM :=
 if kind = 7 ∨ kind = 8 ∨ kind = 9 ∨ kind = 10 then (if a.kind = 3 ∧ b.kind = 3 then some ⟨3, a.null || b.null⟩ else none)
 else if kind = 11 ∨ kind = 12 then (if a.kind = b.kind then some ⟨1, a.null || b.null⟩ else none)
 else if kind = 13 ∨ kind = 14 ∨ kind = 15 then (if a.kind = 1 ∧ b.kind = 1 then some ⟨1, a.null || b.null⟩ else none)
 else if kind = 16 then some ⟨1, false⟩
 else if kind = 17 then (if a.kind = b.kind then some ⟨a.kind, a.null && b.null⟩ else none)
 else (if a.kind = 4 ∨ a.kind = 5 then some ⟨3, a.null || b.null⟩ else none)
/-- The stack behind a step; the last one lies on top. -/
def stepT (cols : List ColM) (st : List TypeM) (x : StepM) : Option (List TypeM) :=
 let k := takesS x.kind
 if mayS x = false ∨ st.length < k then none
 else (if k = 0 then leafT cols x else madeT x.kind (st.getD (st.length - k) type0) (st.getD (st.length - 1) type0)).map fun t => st.take (st.length - k) ++ [t]
def runT (cols : List ColM) : List TypeM → List StepM → Option (List TypeM)
 | st, [] => some st
 | st, x :: l => (stepT cols st x).bind fun st => runT cols st l
/-- The type of what an expression gives. -/
def typeS (cols : List ColM) (l : List StepM) : TypeM × Int :=
 if 64 < l.length then (type0, 5) else match runT cols [] l with
  | some [t] => (t, 0)
  | _ => (type0, 220)
def flagC (b : Bool) : CellM := if b then ⟨false, 1, []⟩ else cell0
def fitsI (n : Int) : Bool := decide (-9223372036854775808 ≤ n ∧ n ≤ 9223372036854775807)
def cmpC (a b : CellM) : Int :=
 if a.null = b.null then (if a.n < b.n then -1 else if b.n < a.n then 1 else compareBytes a.s b.s) else if a.null = true then -1 else 1
/-- What and, or, not make. -/
def logicC (kind : Int) (a b : CellM) : CellM :=
 if kind = 13 ∧ (a = flagC false ∨ b = flagC false) then flagC false
 else if kind = 14 ∧ (a = flagC true ∨ b = flagC true) then flagC true
 else if a = cellNull ∨ b = cellNull then cellNull
 else if kind = 15 then flagC (decide (a = flagC false))
 else flagC (decide (kind = 13))
/-- What a step makes of two cells; of one: both are that one. -/
def madeC (kind : Int) (a b : CellM) : Option CellM :=
 if kind = 13 ∨ kind = 14 ∨ kind = 15 then some (logicC kind a b)
 else if kind = 16 then some (flagC a.null)
 else if kind = 17 then some (if a.null then b else a)
 else if a.null = true ∨ b.null = true then some cellNull
 else if kind = 11 then some (flagC (decide (cmpC a b = 0)))
 else if kind = 12 then some (flagC (decide (cmpC a b < 0)))
 else if kind = 18 then some ⟨false, a.s.length, []⟩
 else let n := if kind = 7 then a.n + b.n else if kind = 8 then a.n - b.n else if kind = 9 then a.n * b.n else -a.n
  if fitsI n = true then some ⟨false, n, []⟩ else none
def rowCheck (cols : List ColM) (r : List CellM) : Int :=
 if cols.length ≠ r.length then 100 else ((cols.zip r).map fun p => checkC p.1.type p.2).find? (fun e => decide (e ≠ 0)) |>.getD 0
/-- The cells behind a step. -/
def stepE (cols : List ColM) (r : List CellM) (st : List CellM) (x : StepM) : Option (List CellM) :=
  let k := takesS x.kind
  (if k = 0 then some (if x.kind = 1 then r.getD ((findC cols x.n).getD 0) cell0 else if x.kind = 6 then cellNull else ⟨false, x.n, x.s⟩)
   else madeC x.kind (st.getD (st.length - k) cell0) (st.getD (st.length - 1) cell0)).map fun c => st.take (st.length - k) ++ [c]
def runE (cols : List ColM) (r : List CellM) : List CellM → List StepM → Option (List CellM)
 | st, [] => some st
 | st, x :: l => (stepE cols r st x).bind fun st => runE cols r st l
/-- What an expression gives in a row. -/
def evalS (cols : List ColM) (l : List StepM) (r : List CellM) : CellM × Int :=
 if (typeS cols l).2 ≠ 0 then (cell0, (typeS cols l).2) else if rowCheck cols r ≠ 0 then (cell0, rowCheck cols r)
 else match runE cols r [] l with
  | none => (cell0, 50)
  | some st => (st.getD 0 cell0, 0)
/-- A number into a rising row, if it is not there. -/
def insertI (k : Int) : List Int → List Int
 | [] => [k]
 | x :: l => if x < k then x :: insertI k l else if x = k then x :: l else k :: x :: l
def usesS (l : List StepM) : List Int := (l.filter fun x => decide (x.kind = 1)).foldl (fun a x => insertI x.n a) []
/-! Words. -/
def nullW (k : Int) : List UInt8 := if k = 1 then [110, 117, 108, 108, 58, 98, 111, 111, 108] else if k = 3 then [110, 117, 108, 108, 58, 105, 110, 116, 54, 52] else if k = 4 then [110, 117, 108, 108, 58, 115, 116, 114, 105, 110, 103] else if k = 5 then [110, 117, 108, 108, 58, 98, 121, 116, 101, 115] else []
def signsW : List (List UInt8) := [[43], [45], [42], [110, 101, 103], [61], [60], [97, 110, 100], [111, 114], [110, 111, 116], [105, 115, 110, 117, 108, 108], [101, 108, 115, 101], [108, 101, 110]]
def hexL (s : List UInt8) : List UInt8 := s.flatMap fun c => [hexB (c.toNat / 16), hexB (c.toNat % 16)]
/-- A text's literal, without blanks. -/
def textW (s : List UInt8) : List UInt8 := (quoteL s).flatMap fun c => if c = 32 then [92, 117, 48, 48, 50, 48] else [c]
/-- The word of a step that may be. -/
def wordS (x : StepM) : List UInt8 :=
 if x.kind = 1 then 35 :: itoa x.n
 else if x.kind = 2 then itoa x.n
 else if x.kind = 3 then (if x.n = 1 then [116, 114, 117, 101] else [102, 97, 108, 115, 101])
 else if x.kind = 4 then textW x.s
 else if x.kind = 5 then 120 :: hexL x.s
 else if x.kind = 6 then nullW x.n
 else signsW.getD (x.kind - 7).toNat []
end Go.Proofs.YtmkaahkbhdlniaaGreatDoor
/-
 What is written as a literal is read back. No program stands here.
-/
namespace Go.Proofs.YtmkaahkbhdlniaaGreatDoor
open Go Go.Lib

theorem next_ok {l : List UInt8} {r n : Nat} (h : nextL l = some (r, n)) : 1 ≤ n ∧ n ≤ 4 ∧ n ≤ l.length ∧ okL l n ∧ r = numL (l.take n) := by
 by_cases hk : ∃ k, 1 ≤ k ∧ k ≤ 4 ∧ k ≤ l.length ∧ okL l k
 ·obtain ⟨k, h1, h4, hl, hok⟩ := hk
  rw [next_of_ok h1 h4 hl hok] at h
  injection h with h
  injection h with h2 h3
  subst h3
  exact ⟨h1, h4, hl, hok, h2.symm⟩
 ·rw [next_none fun k h1 h4 hl hok => hk ⟨k, h1, h4, hl, hok⟩] at h
  cases h
theorem quoteB_high {c : UInt8} (h : 128 ≤ c.toNat) : quoteB c = [c] := by
 unfold quoteB
 have e : ∀ k : UInt8, k.toNat < 128 → c ≠ k := fun k hk e => by subst e; omega
 rw [if_neg (e _ (by decide)), if_neg (e _ (by decide)), if_neg (e _ (by decide)), if_neg (e _ (by decide)), if_neg (e _ (by decide)), if_neg (e _ (by decide)), if_neg (e _ (by decide)), if_neg (fun h2 => by have := UInt8.lt_iff_toNat_lt.1 h2; simp at this; omega)]
end Go.Proofs.YtmkaahkbhdlniaaGreatDoor
/-
 Words are read back as the steps that wrote them; both ways to read a word say the same. No program stands here.
-/
namespace Go.Proofs.YtmkaahkbhdlniaaGreatDoor
open Go Go.Lib

/-! Numbers. -/
theorem decDigits_len : ∀ (k u : Nat), u < 10 ^ (k + 1) → (decDigits u).length ≤ k + 1
 | 0, u, h => by rw [decDigits, dif_pos (by simpa using h)]; simp
 | k + 1, u, h => by
  rw [decDigits]
  split
  ·simp
  ·have := decDigits_len k (u / 10) (by rw [Nat.pow_succ] at h; omega)
   rw [List.length_append, List.length_singleton]; omega
/-- The number that ParseInt hands back. -/
def parseN (w : List UInt8) : Int := match parseIntB 64 w with
 | .ok v => v
 | .range => intSat 64 w
 | _ => 0
/-! Bytes. -/
def hexD (c : UInt8) : Option Nat := if 48 ≤ c.toNat ∧ c.toNat ≤ 57 then some (c.toNat - 48) else if 97 ≤ c.toNat ∧ c.toNat ≤ 102 then some (c.toNat - 87) else none
/-- The program's way: pairs, what is no digit is 0. -/
def pairsL : List UInt8 → List UInt8
 | a :: b :: t => ((hexD a).getD 0 * 16 + (hexD b).getD 0).toUInt8 :: pairsL t
 | _ => []
/-! Words. -/
def trueW : List UInt8 := [116, 114, 117, 101]
def falseW : List UInt8 := [102, 97, 108, 115, 101]
/-- The bytes that the program reads. -/
def readX (w : List UInt8) : List UInt8 := let s := pairsL (w.drop 1); if 120 :: hexL s = w ∧ s.length ≤ 1024 then s else []
/-- The step that the program takes a word for. -/
def meantS (w : List UInt8) : StepM :=
 match signsW.findIdx? (fun x => decide (x = w)) with
 | some i => ⟨7 + i, 0, []⟩
 | none => match [1, 3, 4, 5].find? (fun k : Int => decide (nullW k = w)) with
  | some k => ⟨6, k, []⟩
  | none => if w = trueW then ⟨3, 1, []⟩ else if w = falseW then ⟨3, 0, []⟩
   else if w.head? = some 35 then ⟨1, parseN (w.drop 1), []⟩
   else if w.head? = some 34 then ⟨4, 0, (unqL w).1⟩
   else if w.head? = some 120 then ⟨5, 0, readX w⟩
   else ⟨2, parseN w, []⟩
/-! Expressions as texts. -/
def splitW (sep : UInt8) : List UInt8 → List (List UInt8)
 | [] => [[]]
 | c :: l => if c = sep then [] :: splitW sep l else match splitW sep l with
  | w :: ws => (c :: w) :: ws
  | [] => [[c]]
def goodW (x : StepM) (w : List UInt8) : Bool := mayS x && decide (wordS x = w)
/-- The steps of words, if each is one's. -/
def readAll : List (List UInt8) → Option (List StepM)
 | [] => some []
 | w :: l => if goodW (meantS w) w = true then (readAll l).map (meantS w :: ·) else none
def parseS (s : List UInt8) : List StepM × Int :=
 if 1048576 < s.length ∨ 64 ≤ s.count 32 then ([], 5) else if s = [] then ([], 0) else match readAll (splitW 32 s) with
  | some l => (l, 0)
  | none => ([], 4)
end Go.Proofs.YtmkaahkbhdlniaaGreatDoor
/-
 Texts of expressions: written, read back. No program stands here.
-/
namespace Go.Proofs.YtmkaahkbhdlniaaGreatDoor
open Go Go.Lib

theorem parseN_fits (w : List UInt8) : -9223372036854775808 ≤ parseN w ∧ parseN w ≤ 9223372036854775807 := by
 unfold parseN
 split
 ·rename_i v h
  obtain ⟨h1, h2⟩ := parseIntB_bounds h
  simp at h1 h2
  omega
 ·unfold intSat
  split <;> simp
 ·omega
theorem goodW_iff {x : StepM} {w : List UInt8} : goodW x w = true ↔ mayS x = true ∧ wordS x = w := by
 unfold goodW
 rw [Bool.and_eq_true, decide_eq_true_eq]
/-! Words have no blanks. -/
theorem len_flat {f : UInt8 → List UInt8} {k : Nat} (h : ∀ c, (f c).length ≤ k) : ∀ s : List UInt8, (s.flatMap f).length ≤ k * s.length
 | [] => by simp
 | c :: s => by
  have h1 := h c
  have h2 := len_flat h s
  rw [List.flatMap_cons, List.length_append, List.length_cons, Nat.mul_succ]
  omega
theorem itoa_len {n : Int} (h0 : -9223372036854775808 ≤ n) (h1 : n ≤ 9223372036854775807) : (itoa n).length ≤ 20 := by
 unfold itoa
 split
 ·have := decDigits_len 18 n.natAbs (by simp; omega)
  simp; omega
 ·have := decDigits_len 18 n.toNat (by simp; omega)
  omega
/-! Split and join. -/
theorem split_ne (sep : UInt8) : ∀ l : List UInt8, splitW sep l ≠ []
 | [] => by simp [splitW]
 | c :: l => by
  unfold splitW
  split
  ·simp
  ·split <;> simp
theorem split_cons {sep c : UInt8} {l : List UInt8} (h : c ≠ sep) : ∃ w ws, splitW sep l = w :: ws ∧ splitW sep (c :: l) = (c :: w) :: ws := by
 cases e : splitW sep l with
 | nil => exact absurd e (split_ne sep l)
 | cons w ws => exact ⟨w, ws, rfl, by rw [splitW, if_neg h, e]⟩
theorem split_word {sep : UInt8} {w : List UInt8} (h : ∀ c ∈ w, c ≠ sep) : splitW sep w = [w] := by
 induction w with
 | nil => rfl
 | cons c w ih =>
  obtain ⟨a, b, e1, e2⟩ := split_cons (l := w) (h c List.mem_cons_self)
  rw [ih fun x hx => h x (List.mem_cons_of_mem _ hx)] at e1
  injection e1 with e1 e3
  rw [e2, ← e1, ← e3]
theorem split_app {sep : UInt8} {w l : List UInt8} (h : ∀ c ∈ w, c ≠ sep) : splitW sep (w ++ sep :: l) = w :: splitW sep l := by
 induction w with
 | nil => rw [List.nil_append, splitW, if_pos rfl]
 | cons c w ih =>
  obtain ⟨a, b, e1, e2⟩ := split_cons (l := w ++ sep :: l) (h c List.mem_cons_self)
  rw [ih fun x hx => h x (List.mem_cons_of_mem _ hx)] at e1
  injection e1 with e1 e3
  rw [List.cons_append, e2, ← e1, ← e3]
theorem count_split (sep : UInt8) : ∀ l : List UInt8, (splitW sep l).length = l.count sep + 1
 | [] => rfl
 | c :: l => by
  have ih := count_split sep l
  by_cases h : c = sep
  ·rw [splitW, if_pos h, List.length_cons, ih, h, List.count_cons_self]
  ·obtain ⟨w, ws, e1, e2⟩ := split_cons (l := l) h
   rw [e1] at ih
   rw [e2, List.count_cons_of_ne h]
   simpa using ih
end Go.Proofs.YtmkaahkbhdlniaaGreatDoor
/-
 Short names of the commonest rules of a walk.
-/
namespace Go.Mw
section
variable {P : Program} {r : Option Nat} {n : Nat} {ops : Array Oper} {Q : Post} {rest : List Oper} {σ : St} {w w₀ : World} {S : Nat → Prop} {rs : List HP} {put : HP → List HP} {ty : TypeId} {pos : String} {after : Array Edge} {op : Op}
theorem Qn {y : Code} (h : FW P r n y Q σ w) : FL P r n ops (Qseq P r n y Q) [] σ w := FL_nil (Qseq_normal h)
theorem Sr {id : Nat} {l : List Oper} {y : Code} (h : FL P r n l.toArray (Qseq P r n y Q) l σ w) : FW P r n (.seq (.region id l.toArray false) y) Q σ w := FW_seq (FW_region h)
theorem Nx {id : Nat} {l : List Oper} {y : Code} (h : FL P r n l.toArray (Qseq P r n y Q) l σ w) : FL P r n ops (Qseq P r n (.seq (.region id l.toArray false) y) Q) [] σ w := FL_nil (Qseq_normal (FW_seq (FW_region h)))
theorem Sk {y : Code} (h : FW P r n y Q σ w) : FW P r n .skip (Qseq P r n y Q) σ w := FW_skip (Qseq_normal h)
theorem Mv {d : Nat} {x : Operand} {v : Value} (h : FL P r n ops Q rest (upd σ d v) w) (hv : evF σ x = v := by simp only [evF, upd_same, upd_ne, ne_eq, Nat.reduceEqDiff, not_false_eq_true]; rfl) (hd : Nat.blt d n = true := by exact rfl) :
    FL P r n ops Q ({ dst := some d, op := .move x, type := ty, pos := pos, after := after, guard := none } :: rest) σ w := FL_move hv hd h
theorem Am {d : Nat} {x : Operand} {v : Value} (h : FL P r n ops Q rest (upd σ d v) w) (hv : evF σ x = v := by simp only [evF, upd_same, upd_ne, ne_eq, Nat.reduceEqDiff, not_false_eq_true]; rfl) (hd : Nat.blt d n = true := by exact rfl) :
    FL P r n ops Q ({ dst := some d, op := .assign x, type := ty, pos := pos, after := after, guard := none } :: rest) σ w := FL_assign hv hd h
theorem Pt {d : Nat} {x y z : Operand} {v : Value} (h : FL P r n ops Q rest (upd σ d v) w) (hc : evF σ z = .bool true := by exact rfl) (hv : evF σ x = v := by simp only [evF, upd_same, upd_ne, ne_eq, Nat.reduceEqDiff, not_false_eq_true]; rfl) (hd : Nat.blt d n = true := by exact rfl) :
    FL P r n ops Q ({ dst := some d, op := .pick z x y, type := ty, pos := pos, after := after, guard := none } :: rest) σ w := FL_pickT hc hv hd h
theorem Pf {d : Nat} {x y z : Operand} {v : Value} (h : FL P r n ops Q rest (upd σ d v) w) (hc : evF σ z = .bool false := by exact rfl) (hv : evF σ y = v := by simp only [evF, upd_same, upd_ne, ne_eq, Nat.reduceEqDiff, not_false_eq_true]; rfl) (hd : Nat.blt d n = true := by exact rfl) :
    FL P r n ops Q ({ dst := some d, op := .pick z x y, type := ty, pos := pos, after := after, guard := none } :: rest) σ w := FL_pickF hc hv hd h
theorem On {dst : Option Nat} {j : Nat} {b : Bool} {t : Nat} (h : FL P r n ops Q ({ dst := dst, op := op, type := ty, pos := pos, after := after, guard := none } :: rest) σ w) (hj : (ops[j]?).bind (fun o : Oper => o.dst) = some t := by exact rfl) (hb : σ t = .bool b := by exact rfl) :
    FL P r n ops Q ({ dst := dst, op := op, type := ty, pos := pos, after := after, guard := some (j, b) } :: rest) σ w := FL_on hj hb h
theorem Of {dst : Option Nat} {j : Nat} {b : Bool} {t : Nat} (h : FL P r n ops Q rest (updO σ dst undef) w) (hj : (ops[j]?).bind (fun o : Oper => o.dst) = some t := by exact rfl) (hb : σ t = .bool (!b) := by exact rfl) (hd : okDst n dst = true := by exact rfl) :
    FL P r n ops Q ({ dst := dst, op := op, type := ty, pos := pos, after := after, guard := some (j, b) } :: rest) σ w := FL_off hj hb hd h
theorem Ou {dst : Option Nat} {j : Nat} {b : Bool} {t : Nat} (h : FL P r n ops Q rest (updO σ dst undef) w) (hj : (ops[j]?).bind (fun o : Oper => o.dst) = some t := by exact rfl) (hb : σ.get t = undef := by exact rfl) (hd : okDst n dst = true := by exact rfl) :
    FL P r n ops Q ({ dst := dst, op := op, type := ty, pos := pos, after := after, guard := some (j, b) } :: rest) σ w := FL_offU hj hb hd h
theorem Ld {d b o : Nat} {x : Operand} {T : TypeId} [OneCell P T] {cs : List Value} {E : TypeId} {v : Value} (H : Sep w₀ S rs w) (h : FL P r n ops Q rest (upd σ d v) w) (hx : evF σ x = .pointer (some ⟨b, o, none⟩) := by exact rfl) (hat : At rs (blk b cs E) put := by first | exact At0 | exact At1 | exact At2 | exact At3 | exact At4 | exact At5 | exact At6 | exact At7 | exact At8 | exact At9) (hv : cs[o]? = some v := by exact rfl) (hd : Nat.blt d n = true := by exact rfl) :
    FL P r n ops Q ({ dst := some d, op := .load T x, type := ty, pos := pos, after := after, guard := none } :: rest) σ w := FL_load H hx hat hv hd h
section
variable {d : Nat} {x y : Operand} {T U : TypeId} {k : IntKind} {a b : Int}
theorem Ve (h : FL P r n ops Q rest (upd σ d (.bool (decide (a = b)))) w) (hx : evF σ x = .int k a := by exact rfl) (hy : evF σ y = .int k b := by exact rfl) (hd : Nat.blt d n = true := by exact rfl) :
    FL P r n ops Q ({ dst := some d, op := .binOp .eql T x y U, type := ty, pos := pos, after := after, guard := none } :: rest) σ w := FL_val (Gives.eql hx hy) hd h
theorem Vn (h : FL P r n ops Q rest (upd σ d (.bool (decide (a ≠ b)))) w) (hx : evF σ x = .int k a := by exact rfl) (hy : evF σ y = .int k b := by exact rfl) (hd : Nat.blt d n = true := by exact rfl) :
    FL P r n ops Q ({ dst := some d, op := .binOp .neq T x y U, type := ty, pos := pos, after := after, guard := none } :: rest) σ w := FL_val (Gives.neq hx hy) hd h
theorem Vl (h : FL P r n ops Q rest (upd σ d (.bool (decide (a < b)))) w) (hx : evF σ x = .int k a := by exact rfl) (hy : evF σ y = .int k b := by exact rfl) (hd : Nat.blt d n = true := by exact rfl) :
    FL P r n ops Q ({ dst := some d, op := .binOp .lss T x y U, type := ty, pos := pos, after := after, guard := none } :: rest) σ w := FL_val (Gives.lss hx hy) hd h
theorem Vg (h : FL P r n ops Q rest (upd σ d (.bool (decide (b < a)))) w) (hx : evF σ x = .int k a := by exact rfl) (hy : evF σ y = .int k b := by exact rfl) (hd : Nat.blt d n = true := by exact rfl) :
    FL P r n ops Q ({ dst := some d, op := .binOp .gtr T x y U, type := ty, pos := pos, after := after, guard := none } :: rest) σ w := FL_val (Gives.gtr hx hy) hd h
theorem Vx {i : Nat} {vs : Array Value} {v : Value} (h : FL P r n ops Q rest (upd σ d v) w) (hx : evF σ x = .tuple vs := by exact rfl) (hv : vs[i]? = some v := by exact rfl) (hd : Nat.blt d n = true := by exact rfl) :
    FL P r n ops Q ({ dst := some d, op := .extract x i, type := ty, pos := pos, after := after, guard := none } :: rest) σ w := FL_val (Gives.extract hx hv) hd h
theorem Vt {t : TypeId} [IsStr P t] {l : List UInt8} (h : FL P r n ops Q rest (upd σ d (.int .i64 l.length)) w) (hx : evF σ x = str l := by exact rfl) (hd : Nat.blt d n = true := by exact rfl) :
    FL P r n ops Q ({ dst := some d, op := .call { callee := .builtin .len, args := #[x], argTypes := #[t] }, type := ty, pos := pos, after := after, guard := none } :: rest) σ w := FL_val (Gives.lenT hx) hd h
theorem Vs {t e : TypeId} [IsSlice P t e] {A : Option Addr} {m c : Nat} (h : FL P r n ops Q rest (upd σ d (.int .i64 m)) w) (hx : evF σ x = .slice A m c := by exact rfl) (hd : Nat.blt d n = true := by exact rfl) :
    FL P r n ops Q ({ dst := some d, op := .call { callee := .builtin .len, args := #[x], argTypes := #[t] }, type := ty, pos := pos, after := after, guard := none } :: rest) σ w := FL_val (Gives.lenSlice hx) hd h
theorem Vf {s f k b : Nat} [FieldAt P s f k] (h : FL P r n ops Q rest (upd σ d (.pointer (some ⟨b, k, none⟩))) w) (hx : evF σ x = .pointer (some ⟨b, 0, none⟩) := by exact rfl) (hd : Nat.blt d n = true := by exact rfl) :
    FL P r n ops Q ({ dst := some d, op := .fieldAddr s x f, type := ty, pos := pos, after := after, guard := none } :: rest) σ w := FL_val (Gives.field0 hx) hd h
end
end
section
variable {P : Program} {n : Nat} {Q : Post} {σ : St} {w : World} {l : List ResultVar} {R : Value → World → Prop}
theorem Rb {r : Option Nat} {id : Nat} {y : Code} (h : Q .ret σ w) : FW P r n .ret (Qblk id (Qseq P r n y Q)) σ w := FW_ret (Qblk_ret (Qseq_ret h))
theorem Rs {r : Option Nat} {y : Code} (h : Q .ret σ w) : FW P r n .ret (Qseq P r n y Q) σ w := FW_ret (Qseq_ret h)
end
end Go.Mw
/-
 Short names for values.
-/
namespace Go.Proofs.YtmkaahkbhdlniaaGreatDoor
open Go Go.Mw Go.Lib

def I (n : Int) : Value := .int .i64 n
def I32 (n : Int) : Value := .int .i32 n
def B (c : UInt8) : Value := .int .u8 c.toNat
def fits (n : Int) : Prop := -9223372036854775808 ≤ n ∧ n ≤ 9223372036854775807
theorem one_map {α : Type} {f : α → Value} (h : ∀ x, (f x).oneCell' = true) (l : List α) : ∀ u ∈ l.map f, u.oneCell' = true := fun u hu => by
 obtain ⟨x, _, rfl⟩ := List.mem_map.1 hu
 exact h x
theorem wrap8 {n : Int} (h0 : 0 ≤ n) : IntKind.u8.wrap n = ((n.toNat.toUInt8).toNat : Int) := by
 rw [IntKind.wrap_u8]
 simp
 omega
theorem wrap32 {n : Int} (h : -2147483648 ≤ n ∧ n ≤ 2147483647) : IntKind.i32.wrap n = n := by
 rw [IntKind.wrap_i32]; omega
theorem wrap64 {n : Int} (h : -9223372036854775808 ≤ n ∧ n ≤ 9223372036854775807) : IntKind.i64.wrap n = n := IntWalk.i64_in _ h
end Go.Proofs.YtmkaahkbhdlniaaGreatDoor
namespace Go.Mw
section gives
variable {P : Program} {ρ : Operand → Value} {ty : TypeId} {w : World} {x y : Operand} {T U : TypeId} {k : IntKind}
theorem Gives.remN {a b : Nat} (hx : ρ x = .int k a) (hy : ρ y = .int k b) (h0 : b ≠ 0) : Gives P ρ (.binOp .rem T x y U) ty w (.int k ((a % b : Nat) : Int)) w := by
 have := Gives.rem (P := P) (ty := ty) (w := w) (T := T) (U := U) hx hy (by omega)
 rwa [Int.tmod_eq_emod_of_nonneg (by omega), ← Int.natCast_emod] at this
theorem Gives.quoN {a b : Nat} (hx : ρ x = .int .i64 a) (hy : ρ y = .int .i64 b) (h0 : b ≠ 0) (h : a ≤ 9223372036854775807) : Gives P ρ (.binOp .quo T x y U) ty w (.int .i64 ((a / b : Nat) : Int)) w := by
 have := Gives.quo (P := P) (ty := ty) (w := w) (T := T) (U := U) hx hy (by omega)
 have e : a / b ≤ a := Nat.div_le_self a b
 have e2 : (a : Int).tdiv (b : Int) = ((a / b : Nat) : Int) := by rw [Int.tdiv_eq_ediv_of_nonneg (by omega)]; rfl
 obtain ⟨q, hq⟩ : ∃ q, q = a / b := ⟨_, rfl⟩
 rw [← hq] at e e2 ⊢
 rwa [e2, IntWalk.i64_in (q : Int) (by omega)] at this
theorem Gives.convB {s t : TypeId} {c : UInt8} [hs : IsInt P s .u8] [ht : IsInt P t .i64] (hx : ρ x = .int .u8 c.toNat) : Gives P ρ (.convert s t x) ty w (.int .i64 c.toNat) w := by
 have := Gives.conv (P := P) (ty := ty) (w := w) (s := s) (t := t) (k := .i64) hx
 have hc := c.toNat_lt
 rwa [IntWalk.i64_in _ (by omega)] at this
theorem Gives.convI64 {s t : TypeId} {j : IntKind} {a : Int} [hs : IsInt P s j] [ht : IsInt P t .i64] (hx : ρ x = .int j a) (h : -9223372036854775808 ≤ a ∧ a ≤ 9223372036854775807) : Gives P ρ (.convert s t x) ty w (.int .i64 a) w := by
 have := Gives.conv (P := P) (ty := ty) (w := w) (s := s) (t := t) (k := .i64) hx
 rwa [IntWalk.i64_in _ h] at this
theorem Gives.convI32 {s t : TypeId} {j : IntKind} {a : Int} [hs : IsInt P s j] [ht : IsInt P t .i32] (hx : ρ x = .int j a) (h : -2147483648 ≤ a ∧ a ≤ 2147483647) : Gives P ρ (.convert s t x) ty w (.int .i32 a) w := by
 have := Gives.conv (P := P) (ty := ty) (w := w) (s := s) (t := t) (k := .i32) hx
 rwa [Go.Proofs.YtmkaahkbhdlniaaGreatDoor.wrap32 h] at this
theorem Gives.convU8 {s t : TypeId} {j : IntKind} {a : Int} [hs : IsInt P s j] [ht : IsInt P t .u8] (hx : ρ x = .int j a) (h : 0 ≤ a) : Gives P ρ (.convert s t x) ty w (.int .u8 (a.toNat.toUInt8).toNat) w := by
 have := Gives.conv (P := P) (ty := ty) (w := w) (s := s) (t := t) (k := .u8) hx
 rwa [Go.Proofs.YtmkaahkbhdlniaaGreatDoor.wrap8 h] at this
end gives
end Go.Mw
namespace Go.Mw
open Go.RowKit Go.Proofs.YtmkaahkbhdlniaaGreatDoor
section rules
variable {P : Program} {r : Option Nat} {n : Nat} {ops : Array Oper} {Q : Post} {rest : List Oper} {σ : St} {w w' w₀ : World} {S : Nat → Prop} {rs : List HP} {put : HP → List HP} {ty : TypeId} {pos : String} {after : Array Edge} {guard : Option (Nat × Bool)} {lv : List Bool} {pd pd' : List (Nat × Bool)}
/-- The bytes of a slice that is owned. -/
def bytesH (e : Nat) (v : Value) (xs : List UInt8) : HP := rowH e 1 v xs.length (xs.map B)
theorem B_one (xs : List UInt8) : ∀ u ∈ xs.map B, u.oneCell' = true := one_map (fun _ => rfl) xs
theorem gives_appendB {ρ : Operand → Value} {x y : Operand} {t e b c : TypeId} [hs : IsSlice P t e] [hc : Cells P e 1 1] [hz : Zero P e (.int .u8 0)] {v : Value} {xs news : List UInt8}
    (H : Sep w₀ S (blk b (news.map B) e :: rs) w) (hx : ρ x = v) (hy : ρ y = .slice (some ⟨b, 0, none⟩) c c) (hc' : c = news.length) (hat : At rs (bytesH e v xs) put) (h63 : xs.length + news.length ≤ 140737488355328) :
    ∃ v' w', Gives P ρ (.call { callee := .builtin .append, args := #[x, y], argTypes := #[t, t] }) ty w v' w' ∧ Sep w₀ S (put (bytesH e v' (xs ++ news))) w' := by
  subst hc'
  have hr : RowAt w (some ⟨b, 0, none⟩) news.length 1 (news.map B) := Sep.blkRow H At0 (by simp)
  have H2 := H.drop0
  obtain ⟨F, hp, _, _⟩ := H2.focus hat
  obtain ⟨v', w', hrun, hown, hg, hb⟩ := run_append (P := P) (ty := ty) t e (z := .int .u8 0) (by decide) rfl v xs.length (xs.map B) hp.1 (some ⟨b, 0, none⟩) news.length news.length (news.map B) hr (B_one news) (by unfold maxLen; omega) (by omega)
  refine ⟨v', w', fun _ _ _ _ => ?_, ?_⟩
  · simp only [execOp, resolve, invoke, builtin, Sem.run_bind, Sem.run_pure, Result.andThen_ok, List.map_toArray, List.map_cons, List.map_nil, hx, hy, hrun]
  · refine H2.rowTurn hat hg ?_ (by rcases hb with e | e <;> simp [e])
    rw [← List.map_append] at hown
    rw [List.length_append]
    exact hown
theorem FL_appendB {d : Nat} {x y : Operand} {t e b c : TypeId} [hs : IsSlice P t e] [hc : Cells P e 1 1] [hz : Zero P e (.int .u8 0)] {v : Value} {xs news : List UInt8}
    (H : Sep w₀ S (blk b (news.map B) e :: rs) w) (hat : At rs (bytesH e v xs) put) (h63 : xs.length + news.length ≤ 140737488355328) (hx : evF σ x = v := by exact rfl) (hy : evF σ y = .slice (some ⟨b, 0, none⟩) c c := by exact rfl) (hc' : c = news.length := by exact rfl) (hd : Nat.blt d n = true := by exact rfl)
    (h : ∀ v' w', Sep w₀ S (put (bytesH e v' (xs ++ news))) w' → FL P r n ops Q rest (upd σ d v') w') :
    FL P r n ops Q ({ dst := some d, op := .call { callee := .builtin .append, args := #[x, y], argTypes := #[t, t] }, type := ty, pos := pos, after := after, guard := none } :: rest) σ w := by
  obtain ⟨v', w', hg, hs'⟩ := gives_appendB (P := P) (t := t) (ty := ty) H hx hy hc' hat h63
  exact FL_val hg hd (h v' w' hs')
theorem FGappendB (hok : okOps n ops = true) (i : Nat) (pd' : List (Nat × Bool)) {d : Nat} {x y : Operand} {t e b c : TypeId} [hs : IsSlice P t e] [hc : Cells P e 1 1] [hz : Zero P e (.int .u8 0)] {v : Value} {xs news : List UInt8}
    (H : Sep w₀ S (blk b (news.map B) e :: rs) w) (hat : At rs (bytesH e v xs) put) (h63 : xs.length + news.length ≤ 140737488355328)
    (ho : ops[i]? = some { dst := some d, op := .call { callee := .builtin .append, args := #[x, y], argTypes := #[t, t] }, type := ty, pos := pos, after := after, guard := guard } := by exact rfl)
    (hw : Region.wanted { dst := some d, op := .call { callee := .builtin .append, args := #[x, y], argTypes := #[t, t] }, type := ty, pos := pos, after := after, guard := guard } (yieldF ops σ) = true := by kernel_rfl)
    (hx : evF σ x = v := by exact rfl) (hy : evF σ y = .slice (some ⟨b, 0, none⟩) c c := by exact rfl) (hc' : c = news.length := by exact rfl) (hck : effectOk ops lv (pd.map (·.1)) i = true := by kernel_rfl) (hpd : pd.filter (fun p => !((above ops i).contains p.1)) = pd' := by kernel_rfl)
    (h : ∀ v' w', Sep w₀ S (put (bytesH e v' (xs ++ news))) w' → Stab P ops (upd σ d v') w' pd' ∧ FG P r n ops Q (lv.set i true) pd' (upd σ d v') w') : FG P r n ops Q lv pd σ w :=
  FGval hok i pd' ho hw (gives_appendB (P := P) (t := t) (ty := ty) H hx hy hc' hat h63) hck hpd h
theorem Sep.nilBytes (H : Sep w₀ S rs w) (e : Nat) : Sep w₀ S (bytesH e (.slice none 0 0) [] :: rs) w := H.nilRow e 1
/-- string(b) of bytes that are owned. -/
theorem Gives.bytesO {ρ : Operand → Value} {x : Operand} {s t e : TypeId} [hs : IsSlice P s e] [he : IsInt P e .u8] [hd : IsStr P t] {v : Value} {xs : List UInt8} (H : Sep w₀ S rs w) (hat : At rs (bytesH e v xs) put) (hx : ρ x = v) : Gives P ρ (.convert s t x) ty w (str xs) w := by
 obtain ⟨A, c, rfl, _, _, _⟩ := Sep.rowForm H hat
 exact Gives.bytesT hx (Sep.rowAt H hat)
/-- append(b, s...), s a string. -/
theorem run_appendT {t u ty e : TypeId} [hs : IsSlice P t e] [hu : IsStr P u] [hc : Cells P e 1 1] [hz : Zero P e (.int .u8 0)] {v : Value} {xs news : List UInt8}
    (hown : w.ownsRow 0 e 1 v xs.length (xs.map B)) (h63 : xs.length + news.length ≤ 140737488355328) :
    ∃ v' w', (Builtin.append_ #[t, u] ty #[v, str news]).run P w = .ok v' w' ∧ w'.ownsRow 0 e 1 v' (xs ++ news).length ((xs ++ news).map B) ∧ w.grownBy w' v.ownBlock ∧ (v'.ownBlock = v.ownBlock ∨ v'.ownBlock = some w.heap.size ∨ v'.ownBlock = none) := by
  obtain ⟨i, hi, hsb⟩ := Option.map_eq_some_iff.1 hc.size
  simp only [Prod.mk.injEq] at hsb
  have hzero : i.zero = some (.int .u8 0) := by
    have := hz.run w
    simp [zeroValue, typeInfo, hi] at this
    cases hq : i.zero with
    | none => simp [hq] at this
    | some u => simp [hq] at this; rw [this]
  obtain ⟨v', w', hrun, h1, h2, h3⟩ := Lib.run_append_own_string (P := P) w 0 t u ty e i hs.und hu.und hi hzero hsb.1 hsb.2 v xs.length (xs.map B) hown ⟨news.toArray⟩ (by rw [size_mk]; unfold maxLen; omega) (by rw [size_mk]; omega) (Nat.zero_le _)
  have e1 : Lib.strCells ⟨news.toArray⟩ = news.map B := by simp only [Lib.strCells]; rfl
  rw [e1, size_mk] at h1
  refine ⟨v', w', hrun, by rw [List.length_append, List.map_append]; exact h1, h2, ?_⟩
  rcases hown.2 with ⟨rfl, h0⟩ | ⟨g, cap, cur, rfl, hbg, hg, hnc, hcm, hcs, htake⟩
  · by_cases hm : news.length = 0
    · rw [h3.2 ⟨rfl, by rw [size_mk]; exact hm⟩]; exact .inl rfl
    · have hr := run_append_nil_string (P := P) w t u ty e i (.int .u8 0) hs.und hu.und hi hzero ⟨news.toArray⟩ (by rw [size_mk]; omega) (by rw [size_mk]; omega) (by rw [size_mk, hsb.2]; omega)
      have hx : xs.length = 0 := h0
      rw [hrun] at hr
      injection hr with hr _
      rw [hr]; exact .inr (.inl rfl)
  · by_cases hroom : xs.length + news.length ≤ cap
    · have hcs' : cur.size = cap := by simpa using hcs
      have hr := Lib.run_append_room_string (P := P) w t u ty e i hs.und hu.und hi hsb.1 g xs.length cap cur hg ⟨news.toArray⟩ (by rw [size_mk]; exact hroom) (by rw [size_mk]; omega)
      rw [hrun] at hr
      injection hr with hr _
      rw [hr]; exact .inl rfl
    · have holds : ∀ j u, (xs.map B)[j]? = some u → w.cell? ((⟨g, 0, none⟩ : Addr).add j) = some u := hown.cells (g := g) rfl
      have hr := Lib.run_append_grow_string (P := P) w t u ty e i (.int .u8 0) hs.und hu.und hi hzero ⟨g, 0, none⟩ xs.length cap (xs.map B) (by rw [hsb.1]; simp) holds ⟨news.toArray⟩ (by rw [size_mk]; omega) (by rw [size_mk]; omega) (by rw [size_mk, hsb.2]; exact growslice_fits (by omega) (by omega))
      rw [hrun] at hr
      injection hr with hr _
      rw [hr]; exact .inr (.inl rfl)
theorem FL_appendT {d : Nat} {x y : Operand} {t u e : TypeId} [hs : IsSlice P t e] [hu : IsStr P u] [hc : Cells P e 1 1] [hz : Zero P e (.int .u8 0)] {v : Value} {xs news : List UInt8}
    (H : Sep w₀ S rs w) (hat : At rs (bytesH e v xs) put) (h63 : xs.length + news.length ≤ 140737488355328) (hx : evF σ x = v := by exact rfl) (hy : evF σ y = str news := by exact rfl) (hd : Nat.blt d n = true := by exact rfl)
    (h : ∀ v' w', Sep w₀ S (put (bytesH e v' (xs ++ news))) w' → FL P r n ops Q rest (upd σ d v') w') :
    FL P r n ops Q ({ dst := some d, op := .call { callee := .builtin .append, args := #[x, y], argTypes := #[t, u] }, type := ty, pos := pos, after := after, guard := none } :: rest) σ w := by
  obtain ⟨F, hp, _, _⟩ := H.focus hat
  obtain ⟨v', w', hrun, hown, hg, hb⟩ := run_appendT (P := P) (t := t) (u := u) (ty := ty) (news := news) hp.1 h63
  refine FL_val (v := v') (w' := w') (fun _ _ _ _ => ?_) hd (h v' w' (H.rowTurn hat hg hown hb))
  simp only [execOp, resolve, invoke, builtin, Sem.run_bind, Sem.run_pure, Result.andThen_ok, List.map_toArray, List.map_cons, List.map_nil, hx, hy, hrun]
end rules
end Go.Mw
namespace Go.Mw
section
variable {P : Program} {r : Option Nat} {n : Nat} {ops : Array Oper} {Q : Post} {σ : St} {w : World} {ty : TypeId} {pos : String} {after : Array Edge} {guard : Option (Nat × Bool)} {lv : List Bool} {pd : List (Nat × Bool)}
/-- A variable is set that the region has read ahead. -/
theorem FGset (hok : okOps n ops = true) (e : Nat) (pd' : List (Nat × Bool)) {d : Nat} {x : Operand} {v : Value} (ho : ops[e]? = some { dst := some d, op := .assign x, type := ty, pos := pos, after := after, guard := guard } := by exact rfl)
    (hw : Region.wanted { dst := some d, op := .assign x, type := ty, pos := pos, after := after, guard := guard } (yieldF ops σ) = true := by kernel_rfl) (hx : evF σ x = v := by exact rfl) (hck : effectOk ops lv (pd.map (·.1)) e = true := by kernel_rfl)
    (hpd : pd.filter (fun p => !((above ops e).contains p.1)) = pd' := by kernel_rfl) (h : Stab P ops (upd σ d v) w pd' ∧ FG P r n ops Q (lv.set e true) pd' (upd σ d v) w) : FG P r n ops Q lv pd σ w :=
  FGval (C := fun v' w' => v' = v ∧ w' = w) hok e pd' ho hw ⟨v, w, Gives.assign hx, rfl, rfl⟩ hck hpd (fun v' w' h' => by rw [h'.1, h'.2]; exact h)
end
end Go.Mw
