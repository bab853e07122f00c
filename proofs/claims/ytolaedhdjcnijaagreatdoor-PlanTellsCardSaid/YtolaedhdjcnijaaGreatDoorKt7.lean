/-
 Cells, steps, and what an expression gives, told plainly. No program stands here.
-/
import Derived.Test.YtolaedhdjcnijaaGreatDoorKt6
import Derived.Lib.ItoaNum
import Derived.Lib.ParseIntBTie
import Derived.Lib.Bytealg
set_option linter.unusedVariables false
set_option linter.unusedSimpArgs false
namespace Go.Proofs.YtolaedhdjcnijaaGreatDoor
open Go Go.Lib

structure TypeM where
 kind : Int
 null : Bool
structure CellM where
 null : Bool
 n : Int
 s : List UInt8
structure ColM where
 id : Int
 name : List UInt8
 type : TypeM
 dflt : CellM
structure StepM where
 kind : Int
 n : Int
 s : List UInt8
theorem TypeM.ext' {a b : TypeM} (h1 : a.kind = b.kind) (h2 : a.null = b.null) : a = b := by cases a; cases b; simp_all
theorem CellM.ext' {a b : CellM} (h1 : a.null = b.null) (h2 : a.n = b.n) (h3 : a.s = b.s) : a = b := by cases a; cases b; simp_all
theorem StepM.ext' {a b : StepM} (h1 : a.kind = b.kind) (h2 : a.n = b.n) (h3 : a.s = b.s) : a = b := by cases a; cases b; simp_all
theorem ColM.ext' {a b : ColM} (h1 : a.id = b.id) (h2 : a.name = b.name) (h3 : a.type = b.type) (h4 : a.dflt = b.dflt) : a = b := by cases a; cases b; simp_all
instance : DecidableEq TypeM := fun a b => decidable_of_iff (a.kind = b.kind ∧ a.null = b.null) ⟨fun h => TypeM.ext' h.1 h.2, fun h => by subst h; exact ⟨rfl, rfl⟩⟩
instance : DecidableEq CellM := fun a b => decidable_of_iff (a.null = b.null ∧ a.n = b.n ∧ a.s = b.s) ⟨fun h => CellM.ext' h.1 h.2.1 h.2.2, fun h => by subst h; exact ⟨rfl, rfl, rfl⟩⟩
instance : DecidableEq StepM := fun a b => decidable_of_iff (a.kind = b.kind ∧ a.n = b.n ∧ a.s = b.s) ⟨fun h => StepM.ext' h.1 h.2.1 h.2.2, fun h => by subst h; exact ⟨rfl, rfl, rfl⟩⟩
instance : DecidableEq ColM := fun a b => decidable_of_iff (a.id = b.id ∧ a.name = b.name ∧ a.type = b.type ∧ a.dflt = b.dflt) ⟨fun h => ColM.ext' h.1 h.2.1 h.2.2.1 h.2.2.2, fun h => by subst h; exact ⟨rfl, rfl, rfl, rfl⟩⟩
def cell0 : CellM := ⟨false, 0, []⟩
def cellNull : CellM := ⟨true, 0, []⟩
def type0 : TypeM := ⟨0, false⟩
def mayT (t : TypeM) : Bool := decide (1 ≤ t.kind ∧ t.kind ≤ 5)
def isC (kind : Int) (c : CellM) : Bool :=
 if kind = 1 then decide (c.s = [] ∧ 0 ≤ c.n ∧ c.n ≤ 1)
 else if kind = 2 then decide (c.s = [] ∧ -2147483648 ≤ c.n ∧ c.n ≤ 2147483647)
 else if kind = 3 then decide (c.s = [])
 else if kind = 4 then decide (c.n = 0 ∧ c.s.length ≤ 1024 ∧ validD c.s = true)
 else decide (c.n = 0 ∧ c.s.length ≤ 1024)
def checkC (t : TypeM) (c : CellM) : Int :=
 if mayT t = false then 2 else if c.null = true then (if t.null = true ∧ c = cellNull then 0 else 90) else if isC t.kind c = true then 0 else 90
def mayS (x : StepM) : Bool :=
 if x.kind = 1 then decide (x.s = [] ∧ 1 ≤ x.n ∧ x.n ≤ 1048576)
 else if x.kind = 2 then decide (x.s = [])
 else if x.kind = 3 then decide (x.s = [] ∧ 0 ≤ x.n ∧ x.n ≤ 1)
 else if x.kind = 4 then decide (x.n = 0 ∧ x.s.length ≤ 1024 ∧ validD x.s = true)
 else if x.kind = 5 then decide (x.n = 0 ∧ x.s.length ≤ 1024)
 else if x.kind = 6 then decide (x.s = [] ∧ (x.n = 1 ∨ (3 ≤ x.n ∧ x.n ≤ 5)))
 else decide (7 ≤ x.kind ∧ x.kind ≤ 18 ∧ x.n = 0 ∧ x.s = [])
def takesS (kind : Int) : Nat := if kind < 7 then 0 else if kind = 10 ∨ kind = 15 ∨ kind = 16 ∨ kind = 18 then 1 else 2
def findC (cols : List ColM) (id : Int) : Option Nat := cols.findIdx? fun c => decide (c.id = id)
def leafT (cols : List ColM) (x : StepM) : Option TypeM :=
 if x.kind = 1 then (match findC cols x.n with
  | none => none
  | some i => let t := (cols.getD i ⟨0, [], type0, cell0⟩).type
   if mayT t = false then none else some (if t.kind = 2 then ⟨3, t.null⟩ else t))
 else if x.kind = 2 then some ⟨3, false⟩
 else if x.kind = 3 then some ⟨1, false⟩
 else if x.kind = 4 then some ⟨4, false⟩
 else if x.kind = 5 then some ⟨5, false⟩
 else some ⟨x.n, true⟩
def madeT (kind : Int) (a b : TypeM) : Option TypeM :=
 if kind = 7 ∨ kind = 8 ∨ kind = 9 ∨ kind = 10 then (if a.kind = 3 ∧ b.kind = 3 then some ⟨3, a.null || b.null⟩ else none)
 else if kind = 11 ∨ kind = 12 then (if a.kind = b.kind then some ⟨1, a.null || b.null⟩ else none)
 else if kind = 13 ∨ kind = 14 ∨ kind = 15 then (if a.kind = 1 ∧ b.kind = 1 then some ⟨1, a.null || b.null⟩ else none)
 else if kind = 16 then some ⟨1, false⟩
 else if kind = 17 then (if a.kind = b.kind then some ⟨a.kind, a.null && b.null⟩ else none)
 else (if a.kind = 4 ∨ a.kind = 5 then some ⟨3, a.null || b.null⟩ else none)
def stepT (cols : List ColM) (st : List TypeM) (x : StepM) : Option (List TypeM) :=
 let k := takesS x.kind
 if mayS x = false ∨ st.length < k then none
 else (if k = 0 then leafT cols x else madeT x.kind (st.getD (st.length - k) type0) (st.getD (st.length - 1) type0)).map fun t => st.take (st.length - k) ++ [t]
def runT (cols : List ColM) : List TypeM → List StepM → Option (List TypeM)
 | st, [] => some st
 | st, x :: l => (stepT cols st x).bind fun st => runT cols st l
def typeS (cols : List ColM) (l : List StepM) : TypeM × Int :=
 if 64 < l.length then (type0, 5) else match runT cols [] l with
  | some [t] => (t, 0)
  | _ => (type0, 220)
def insertI (k : Int) : List Int → List Int
 | [] => [k]
 | x :: l => if x < k then x :: insertI k l else if x = k then x :: l else k :: x :: l
def usesS (l : List StepM) : List Int := (l.filter fun x => decide (x.kind = 1)).foldl (fun a x => insertI x.n a) []
/-! Words. -/
def nullW (k : Int) : List UInt8 := if k = 1 then [110, 117, 108, 108, 58, 98, 111, 111, 108] else if k = 3 then [110, 117, 108, 108, 58, 105, 110, 116, 54, 52] else if k = 4 then [110, 117, 108, 108, 58, 115, 116, 114, 105, 110, 103] else if k = 5 then [110, 117, 108, 108, 58, 98, 121, 116, 101, 115] else []
def signsW : List (List UInt8) := [[43], [45], [42], [110, 101, 103], [61], [60], [97, 110, 100], [111, 114], [110, 111, 116], [105, 115, 110, 117, 108, 108], [101, 108, 115, 101], [108, 101, 110]]
def hexL (s : List UInt8) : List UInt8 := s.flatMap fun c => [hexB (c.toNat / 16), hexB (c.toNat % 16)]
def textW (s : List UInt8) : List UInt8 := (quoteL s).flatMap fun c => if c = 32 then [92, 117, 48, 48, 50, 48] else [c]
def wordS (x : StepM) : List UInt8 :=
 if x.kind = 1 then 35 :: itoa x.n
 else if x.kind = 2 then itoa x.n
 else if x.kind = 3 then (if x.n = 1 then [116, 114, 117, 101] else [102, 97, 108, 115, 101])
 else if x.kind = 4 then textW x.s
 else if x.kind = 5 then 120 :: hexL x.s
 else if x.kind = 6 then nullW x.n
 else signsW.getD (x.kind - 7).toNat []
def joinW (sep : UInt8) : List (List UInt8) → List UInt8
 | [] => []
 | [w] => w
 | w :: l => w ++ sep :: joinW sep l
def textS (l : List StepM) : List UInt8 × Int :=
 if 64 < l.length then ([], 5) else if (l.all mayS) = false then ([], 2) else (joinW 32 (l.map wordS), 0)

theorem next_ok {l : List UInt8} {r n : Nat} (h : nextL l = some (r, n)) : 1 ≤ n ∧ n ≤ 4 ∧ n ≤ l.length ∧ okL l n ∧ r = numL (l.take n) := by
 by_cases hk : ∃ k, 1 ≤ k ∧ k ≤ 4 ∧ k ≤ l.length ∧ okL l k
 ·obtain ⟨k, h1, h4, hl, hok⟩ := hk
  rw [next_of_ok h1 h4 hl hok] at h
  injection h with h
  injection h with h2 h3
  subst h3
  exact ⟨h1, h4, hl, hok, h2.symm⟩
 rw [next_none fun k h1 h4 hl hok => hk ⟨k, h1, h4, hl, hok⟩] at h
 cases h
theorem next_app {l : List UInt8} {r n : Nat} (h : nextL l = some (r, n)) (t : List UInt8) : nextL (l.take n ++ t) = some (r, n) := by
 obtain ⟨h1, h4, hl, hok, hr⟩ := next_ok h
 have e : (l.take n ++ t).take n = l.take n := by
  rw [List.take_append_of_le_length (by rw [List.length_take]; omega), List.take_take, Nat.min_self]
 have hok' : okL (l.take n ++ t) n := by unfold okL at hok ⊢; rw [e]; exact hok
 rw [next_of_ok h1 h4 (by rw [List.length_append, List.length_take]; omega) hok', e, hr]
theorem next_ascii {c : UInt8} {t : List UInt8} (h : c.toNat < 128) : nextL (c :: t) = some (c.toNat, 1) := by
 have := next_of_ok (l := c :: t) (k := 1) (by omega) (by omega) (by simp) (ok1.2 h)
 simpa [numL] using this
theorem next_high {l : List UInt8} {r n : Nat} (h : nextL l = some (r, n)) (hn : n ≠ 1) : ∀ c ∈ l.take n, 128 ≤ c.toNat := by
 obtain ⟨h1, h4, hl, hok, _⟩ := next_ok h
 have hn' : n = 2 ∨ n = 3 ∨ n = 4 := by omega
 rcases hn' with rfl | rfl | rfl
 ·obtain ⟨a, b, t, rfl⟩ : ∃ a b t, l = a :: b :: t := by match l, hl with | a :: b :: t, _ => exact ⟨a, b, t, rfl⟩
  obtain ⟨h2, h3, _⟩ := ok2.1 hok
  intro c hc
  simp at hc
  rcases hc with rfl | rfl <;> omega
 ·obtain ⟨a, b, c, t, rfl⟩ : ∃ a b c t, l = a :: b :: c :: t := by match l, hl with | a :: b :: c :: t, _ => exact ⟨a, b, c, t, rfl⟩
  obtain ⟨h2, h3, h5, _⟩ := ok3.1 hok
  intro x hc
  simp at hc
  rcases hc with rfl | rfl | rfl <;> omega
 obtain ⟨a, b, c, d, t, rfl⟩ : ∃ a b c d t, l = a :: b :: c :: d :: t := by match l, hl with | a :: b :: c :: d :: t, _ => exact ⟨a, b, c, d, t, rfl⟩
 obtain ⟨h2, h3, h5, h6, _⟩ := ok4.1 hok
 intro x hc
 simp at hc
 rcases hc with rfl | rfl | rfl | rfl <;> omega
theorem next_one {l : List UInt8} {r : Nat} (h : nextL l = some (r, 1)) : ∃ c t, l = c :: t ∧ c.toNat < 128 := by
 obtain ⟨h1, h4, hl, hok, _⟩ := next_ok h
 cases l with
 | nil => simp at hl
 | cons c t => exact ⟨c, t, rfl, ok1.1 hok⟩
theorem valid_ind {p : List UInt8 → Prop} (h0 : p []) (h1 : ∀ c t, c.toNat < 128 → validD t = true → p t → p (c :: t))
    (h2 : ∀ l r n, nextL l = some (r, n) → n ≠ 1 → validD (l.drop n) = true → p (l.drop n) → p l) : ∀ {l : List UInt8}, validD l = true → p l := by
  intro l
  induction hk : l.length using Nat.strongRecOn generalizing l with
  | _ k ih =>
    intro hv
    cases l with
    | nil => exact h0
    | cons a u =>
      rw [valid_step (by simp)] at hv
      cases hn : nextL (a :: u) with
      | none => rw [hn] at hv; cases hv
      | some x =>
        obtain ⟨r, n⟩ := x
        rw [hn] at hv
        dsimp only at hv
        obtain ⟨k1, _, k3, _, _⟩ := next_ok hn
        have hrec := ih ((a :: u).drop n).length (by rw [List.length_drop, ← hk]; simp only [List.length_cons] at k3 ⊢; omega) rfl hv
        by_cases he : n = 1
        · subst he
          obtain ⟨c, t, e, hc⟩ := next_one hn
          injection e with e1 e2
          subst e1; subst e2
          exact h1 a u hc hv hrec
        exact h2 _ r n hn he hv hrec
def quoteC (c : UInt8) : List UInt8 := if c = 32 then [92, 117, 48, 48, 50, 48] else quoteB c
theorem quoteB_high {c : UInt8} (h : 128 ≤ c.toNat) : quoteB c = [c] := by
 unfold quoteB
 have e : ∀ k : UInt8, k.toNat < 128 → c ≠ k := fun k hk e => by subst e; omega
 rw [if_neg (e _ (by decide)), if_neg (e _ (by decide)), if_neg (e _ (by decide)), if_neg (e _ (by decide)), if_neg (e _ (by decide)), if_neg (e _ (by decide)), if_neg (e _ (by decide)), if_neg (fun h2 => by have := UInt8.lt_iff_toNat_lt.1 h2; simp at this; omega)]
theorem quoteC_high {c : UInt8} (h : 128 ≤ c.toNat) : quoteC c = [c] := by
 unfold quoteC
 rw [if_neg (fun e => by subst e; simp at h), quoteB_high h]
theorem hexB_ne {n : Nat} (h : n < 16) : hexB n ≠ 32 := by
 have : ∀ n : Fin 16, hexB n.val ≠ 32 := by decide
 exact this ⟨n, h⟩
theorem quoteB_flat (c : UInt8) : (quoteB c).flatMap (fun c => if c = 32 then [92, 117, 48, 48, 50, 48] else [c]) = quoteC c := by
 unfold quoteC
 by_cases h : c = 32
 ·subst h; rfl
 rw [if_neg h]
 have h1 : hexB (c.toNat / 16) ≠ 32 := hexB_ne (by have := c.toNat_lt; omega)
 have h2 : hexB (c.toNat % 16) ≠ 32 := hexB_ne (by omega)
 unfold quoteB
 repeat' split
 all_goals simp_all
theorem textW_eq (s : List UInt8) : textW s = 34 :: (s.flatMap quoteC ++ [34]) := by
 unfold textW quoteL
 rw [List.flatMap_cons, List.flatMap_append, List.flatMap_assoc]
 have e : (fun c => (quoteB c).flatMap (fun c => if c = 32 then [92, 117, 48, 48, 50, 48] else [c])) = quoteC := funext quoteB_flat
 rw [e]
 rfl
theorem digit_hex {d : Nat} (h : d < 16) : digitL (hexB d) = some d := by
 have : ∀ d : Fin 16, digitL (hexB d.val) = some d.val := by decide
 exact this ⟨d, h⟩
theorem half_low {a b : Nat} {t : List UInt8} (ha : a < 16) (hb : b < 16) : halfL (48 :: 48 :: hexB a :: hexB b :: t) false = (16 * a + b, 0) := by
 have e : digitL 48 = some 0 := rfl
 unfold halfL
 simp [e, digit_hex ha, digit_hex hb]
theorem enc_low {c : UInt8} (h : c.toNat < 128) : encodeRune (c.toNat : Int) = [c] := by
 rw [encodeRune, encodeRuneZ_one (by omega) (by omega)]
 simp
theorem esc_low {c : UInt8} {t : List UInt8} (h : c.toNat < 128) : escL (92 :: 117 :: 48 :: 48 :: hexB (c.toNat / 16) :: hexB (c.toNat % 16) :: t) = ([c], 6, 0) := by
 have hh := half_low (t := t) (show c.toNat / 16 < 16 by omega) (show c.toNat % 16 < 16 by omega)
 have e2 : 16 * (c.toNat / 16) + c.toNat % 16 = c.toNat := by omega
 rw [e2] at hh
 have e3 : shortL 117 = none := rfl
 unfold escL
 simp only [List.getElem?_cons_succ, List.getElem?_cons_zero, e3, List.drop_succ_cons, List.drop_zero, hh]
 simp only [ne_eq, not_true_eq_false, if_false]
 rw [if_pos (.inl (by omega)), enc_low h]
theorem unq_byte {c : UInt8} (h : c.toNat < 128) (f i : Nat) (u out : List UInt8) : unqR (f + 1) (quoteC c ++ u) i out = unqR f u (i + (quoteC c).length) (out ++ [c]) := by
 have key : ∀ x b : UInt8, shortL x = some b → unqR (f + 1) (92 :: x :: u) i out = unqR f u (i + 2) (out ++ [b]) := by
  intro x b hx
  have e : escL (92 :: x :: u) = ([b], 2, 0) := by
   unfold escL
   simp only [List.getElem?_cons_succ, List.getElem?_cons_zero, hx]
  rw [unqR]
  simp only [e]
  simp
 have key2 : unqR (f + 1) (92 :: 117 :: 48 :: 48 :: hexB (c.toNat / 16) :: hexB (c.toNat % 16) :: u) i out = unqR f u (i + 6) (out ++ [c]) := by
  rw [unqR]
  simp only [esc_low h]
  simp
 unfold quoteC
 by_cases h0 : c = 32
 ·subst h0; rw [if_pos rfl]; exact key2
 rw [if_neg h0]
 unfold quoteB
 by_cases h1 : c = 34
 ·subst h1; exact key 34 34 rfl
 rw [if_neg h1]
 by_cases h2 : c = 92
 ·subst h2; exact key 92 92 rfl
 rw [if_neg h2]
 by_cases h3 : c = 8
 ·subst h3; exact key 98 8 rfl
 rw [if_neg h3]
 by_cases h4 : c = 12
 ·subst h4; exact key 102 12 rfl
 rw [if_neg h4]
 by_cases h5 : c = 10
 ·subst h5; exact key 110 10 rfl
 rw [if_neg h5]
 by_cases h6 : c = 13
 ·subst h6; exact key 114 13 rfl
 rw [if_neg h6]
 by_cases h7 : c = 9
 ·subst h7; exact key 116 9 rfl
 rw [if_neg h7]
 by_cases h8 : c < 32
 ·rw [if_pos h8]; exact key2
 rw [if_neg h8]
 show unqR (f + 1) (c :: u) i out = _
 rw [unqR]
 simp only [h1, h8, h2, if_false, next_ascii h]
 simp
theorem flat_high {l : List UInt8} (h : ∀ c ∈ l, 128 ≤ c.toNat) : l.flatMap quoteC = l := by
 induction l with
 | nil => rfl
 | cons c l ih =>
  rw [List.flatMap_cons, quoteC_high (h c List.mem_cons_self), ih fun x hx => h x (List.mem_cons_of_mem _ hx)]
  rfl
theorem unq_back {s : List UInt8} (hv : validD s = true) : ∀ (f i : Nat) (u out : List UInt8), (s.flatMap quoteC ++ 34 :: u).length ≤ f → unqR f (s.flatMap quoteC ++ 34 :: u) i out = (out ++ s, i + (s.flatMap quoteC).length + 1, 0) := by
 refine valid_ind (p := fun s => ∀ (f i : Nat) (u out : List UInt8), (s.flatMap quoteC ++ 34 :: u).length ≤ f → unqR f (s.flatMap quoteC ++ 34 :: u) i out = (out ++ s, i + (s.flatMap quoteC).length + 1, 0)) ?_ ?_ ?_ hv
 ·intro f i u out hf
  cases f with
  | zero => simp at hf
  | succ f => rw [List.flatMap_nil, List.nil_append, unqR]; simp
 ·intro c t hc _ ih f i u out hf
  have hq : 1 ≤ (quoteC c).length := by
   unfold quoteC quoteB
   repeat' split
   all_goals simp
  rw [List.flatMap_cons, List.append_assoc] at hf ⊢
  rw [List.length_append] at hf
  cases f with
  | zero => omega
  | succ f =>
   rw [unq_byte hc, ih f _ u _ (by omega), List.append_assoc, List.length_append]
   simp only [List.cons_append, List.nil_append, Prod.mk.injEq, and_true, true_and]
   omega
 intro l r n hn h1 _ ih f i u out hf
 obtain ⟨k1, _, k3, _, _⟩ := next_ok hn
 have hh := next_high hn h1
 have e : l.flatMap quoteC = l.take n ++ (l.drop n).flatMap quoteC := by
  conv => lhs; rw [← List.take_append_drop n l]
  rw [List.flatMap_append, flat_high hh]
 rw [e, List.append_assoc] at hf ⊢
 rw [List.length_append, List.length_take] at hf
 cases f with
 | zero => omega
 | succ f =>
  have ha := next_app hn ((l.drop n).flatMap quoteC ++ 34 :: u)
  obtain ⟨c, t, ect⟩ : ∃ c t, l.take n ++ ((l.drop n).flatMap quoteC ++ 34 :: u) = c :: t := by
   cases h0 : l.take n ++ ((l.drop n).flatMap quoteC ++ 34 :: u) with
   | nil => simp at h0
   | cons c t => exact ⟨c, t, rfl⟩
  have hc : 128 ≤ c.toNat := by
   refine hh c ?_
   cases ht : l.take n with
   | nil => rw [List.take_eq_nil_iff] at ht; rcases ht with rfl | rfl <;> simp at k1 k3; omega
   | cons a b => rw [ht] at ect; injection ect with e1 _; rw [e1]; exact List.mem_cons_self
  have e2 : ∀ k : UInt8, k.toNat < 128 → c ≠ k := fun k hk e => by subst e; omega
  have hd : (c :: t).drop n = (l.drop n).flatMap quoteC ++ 34 :: u := by rw [← ect, List.drop_append_of_le_length (by rw [List.length_take]; omega), List.drop_take, Nat.sub_self, List.take_zero, List.nil_append]
  have ht : (c :: t).take n = l.take n := by rw [← ect, List.take_append_of_le_length (by rw [List.length_take]; omega), List.take_take, Nat.min_self]
  rw [ect] at ha ⊢
  rw [unqR]
  dsimp only
  rw [if_neg (e2 _ (by decide)), if_neg (fun h2 => by have := UInt8.lt_iff_toNat_lt.1 h2; simp at this; omega), if_neg (e2 _ (by decide)), ha]
  dsimp only
  rw [hd, ht, ih f _ u _ (by omega), List.append_assoc, List.take_append_drop, List.length_append, List.length_take]
  simp only [Prod.mk.injEq, and_true, true_and]
  omega
theorem unq_text {s : List UInt8} (hv : validD s = true) : unqL (textW s) = (s, (textW s).length, 0) := by
 rw [textW_eq]
 unfold unqL
 dsimp only
 rw [if_neg (by simp), unq_back hv _ _ [] [] (by omega)]
 simp
 omega

/-! Numbers. -/
def isDig (c : UInt8) : Bool := decide (48 ≤ c.toNat ∧ c.toNat ≤ 57)
def digitsD : List UInt8 → Nat → Option Nat
 | [], acc => some acc
 | c :: r, acc => if isDig c = true then digitsD r (10 * acc + (c.toNat - 48)) else none
theorem digitsD_app : ∀ (l m : List UInt8) (acc : Nat), digitsD (l ++ m) acc = (digitsD l acc).bind fun a => digitsD m a
 | [], _, _ => rfl
 | c :: l, m, acc => by
  simp only [List.cons_append, digitsD]
  split
  ·exact digitsD_app l m _
  rfl
theorem dig_ofNat {d : Nat} (h : d < 10) : (UInt8.ofNat (48 + d)).toNat = 48 + d := by
 simp
 omega
theorem digitsD_dec (u : Nat) : digitsD (decDigits u) 0 = some u := by
 induction u using Nat.strongRecOn with
 | _ u ih =>
  rw [decDigits]
  split
  ·rename_i h
   have e := dig_ofNat h
   simp only [digitsD, isDig, e]
   rw [if_pos (by simp; omega)]
   congr 1; omega
  rename_i h
  rw [digitsD_app, ih (u / 10) (by omega)]
  have e := dig_ofNat (show u % 10 < 10 by omega)
  simp only [Option.bind_some, digitsD, isDig, e]
  rw [if_pos (by simp; omega)]
  congr 1; omega
theorem decDigits_ne (u : Nat) : decDigits u ≠ [] := by
 rw [decDigits]
 split <;> simp
theorem decDigits_dig (u : Nat) : ∀ c ∈ decDigits u, isDig c = true := by
 induction u using Nat.strongRecOn with
 | _ u ih =>
  rw [decDigits]
  split
  ·rename_i h
   intro c hc
   simp only [List.mem_singleton] at hc
   subst hc
   unfold isDig
   rw [dig_ofNat h]; simp; omega
  rename_i h
  intro c hc
  rcases List.mem_append.1 hc with hc | hc
  ·exact ih (u / 10) (by omega) c hc
  simp only [List.mem_singleton] at hc
  subst hc
  unfold isDig
  rw [dig_ofNat (show u % 10 < 10 by omega)]; simp; omega
theorem decDigits_len : ∀ (k u : Nat), u < 10 ^ (k + 1) → (decDigits u).length ≤ k + 1
 | 0, u, h => by rw [decDigits, dif_pos (by simpa using h)]; simp
 | k + 1, u, h => by
  rw [decDigits]
  split
  ·simp
  have := decDigits_len k (u / 10) (by rw [Nat.pow_succ] at h; omega)
  rw [List.length_append, List.length_singleton]; omega
theorem digitsD_le : ∀ (l : List UInt8) (acc n : Nat), digitsD l acc = some n → acc ≤ n
 | [], acc, n, h => by simp [digitsD] at h; omega
 | c :: r, acc, n, h => by
  simp only [digitsD] at h
  split at h
  ·have := digitsD_le r _ n h; omega
  cases h
theorem parse_digits : ∀ (l : List UInt8) (acc n : Nat), digitsD l acc = some n → n < 18446744073709551616 → parseUint10 acc l = .ok n
 | [], acc, n, h, _ => by simp [digitsD] at h; simp [parseUint10, h]
 | c :: r, acc, n, h, hn => by
  simp only [digitsD] at h
  split at h
  ·rename_i hc
   have hle := digitsD_le r _ n h
   have hc' : 48 ≤ c.toNat ∧ c.toNat ≤ 57 := by simpa [isDig] using hc
   rw [parseUint10, if_pos hc', if_neg (by omega), if_neg (by omega)]
   rw [Nat.mul_comm] at h
   exact parse_digits r _ n h hn
  cases h
def parseN (w : List UInt8) : Int := match parseIntB 64 w with
 | .ok v => v
 | .range => intSat 64 w
 | _ => 0
theorem head_digit {u : Nat} : ∃ c r, decDigits u = c :: r ∧ isDig c = true := by
 cases h : decDigits u with
 | nil => exact absurd h (decDigits_ne u)
 | cons c r => exact ⟨c, r, rfl, decDigits_dig u c (by rw [h]; exact List.mem_cons_self)⟩
theorem parse_dec {u : Nat} (h : u < 18446744073709551616) : parseUintB 64 (decDigits u) = .ok u := by
 rw [parseUintB_64, parseMag, if_neg (decDigits_ne u), parse_digits _ 0 u (digitsD_dec u) h]
theorem parseN_itoa {n : Int} (h0 : -9223372036854775808 ≤ n) (h1 : n ≤ 9223372036854775807) : parseN (itoa n) = n := by
 by_cases hn : n < 0
 ·have e : itoa n = 45 :: decDigits n.natAbs := if_pos hn
  unfold parseN
  rw [e, parseIntB_minus, parse_dec (by omega)]
  simp only [signedC]
  rw [if_neg (by simp; omega)]
  simp only
  omega
 have e0 : itoa n = decDigits n.toNat := if_neg hn
 obtain ⟨c, r, e, hc⟩ := head_digit (u := n.toNat)
 have hc' : 48 ≤ c.toNat ∧ c.toNat ≤ 57 := by simpa [isDig] using hc
 have hp := parse_dec (u := n.toNat) (by omega)
 unfold parseN
 rw [e0]
 rw [e] at hp ⊢
 rw [parseIntB_plain _ _ _ (by omega) (by omega), hp]
 simp only [signlessC]
 rw [if_neg (by simp; omega)]
 simp only
 omega
/-! Bytes. -/
def hexD (c : UInt8) : Option Nat := if 48 ≤ c.toNat ∧ c.toNat ≤ 57 then some (c.toNat - 48) else if 97 ≤ c.toNat ∧ c.toNat ≤ 102 then some (c.toNat - 87) else none
def pairsL : List UInt8 → List UInt8
 | a :: b :: t => ((hexD a).getD 0 * 16 + (hexD b).getD 0).toUInt8 :: pairsL t
 | _ => []
theorem hexD_hex {d : Nat} (h : d < 16) : hexD (hexB d) = some d := by
 have : ∀ d : Fin 16, hexD (hexB d.val) = some d.val := by decide
 exact this ⟨d, h⟩
theorem byte_pair (c : UInt8) : (c.toNat / 16 * 16 + c.toNat % 16).toUInt8 = c := by
 rw [u8_eq]
 have := c.toNat_lt
 omega
theorem pairs_hex : ∀ s : List UInt8, pairsL (hexL s) = s
 | [] => rfl
 | c :: s => by
  have := c.toNat_lt
  show pairsL (hexB (c.toNat / 16) :: hexB (c.toNat % 16) :: hexL s) = _
  rw [pairsL, hexD_hex (by omega), hexD_hex (by omega), pairs_hex s]
  simp only [Option.getD_some, byte_pair]
/-! Words. -/
def trueW : List UInt8 := [116, 114, 117, 101]
def falseW : List UInt8 := [102, 97, 108, 115, 101]
def readX (w : List UInt8) : List UInt8 := let s := pairsL (w.drop 1); if 120 :: hexL s = w ∧ s.length ≤ 1024 then s else []
def meantS (w : List UInt8) : StepM :=
 match signsW.findIdx? (fun x => decide (x = w)) with
 | some i => ⟨7 + i, 0, []⟩
 | none => match [1, 3, 4, 5].find? (fun k : Int => decide (nullW k = w)) with
  | some k => ⟨6, k, []⟩
  | none => if w = trueW then ⟨3, 1, []⟩ else if w = falseW then ⟨3, 0, []⟩
   else if w.head? = some 35 then ⟨1, parseN (w.drop 1), []⟩
   else if w.head? = some 34 then ⟨4, 0, (unqL w).1⟩
   else if w.head? = some 120 then ⟨5, 0, readX w⟩
   else ⟨2, parseN w, []⟩
theorem signs_head : ∀ x ∈ signsW, ∃ c r, x = c :: r ∧ c ≠ 35 ∧ c ≠ 34 ∧ c ≠ 120 ∧ ¬ (48 ≤ c.toNat ∧ c.toNat ≤ 57) ∧ (c = 45 → r = []) := by
 intro x hx
 simp only [signsW, List.mem_cons, List.not_mem_nil, or_false] at hx
 rcases hx with rfl | rfl | rfl | rfl | rfl | rfl | rfl | rfl | rfl | rfl | rfl | rfl <;> exact ⟨_, _, rfl, by decide, by decide, by decide, by decide, by decide⟩
theorem no_sign {c : UInt8} {r : List UInt8} (h : c = 35 ∨ c = 34 ∨ c = 120 ∨ (48 ≤ c.toNat ∧ c.toNat ≤ 57) ∨ (c = 45 ∧ r ≠ [])) : signsW.findIdx? (fun x => decide (x = c :: r)) = none := by
 rw [List.findIdx?_eq_none_iff]
 intro x hx
 obtain ⟨c', r', rfl, h1, h2, h3, h4, h5⟩ := signs_head x hx
 simp only [List.cons.injEq, decide_eq_false_iff_not, not_and]
 rintro rfl rfl
 rcases h with h | h | h | h | ⟨h, h6⟩
 ·exact h1 h
 ·exact h2 h
 ·exact h3 h
 ·exact h4 h
 exact h6 (h5 h)
theorem no_null {c : UInt8} {r : List UInt8} (h : c ≠ 110) : [1, 3, 4, 5].find? (fun k : Int => decide (nullW k = c :: r)) = none := by
 rw [List.find?_eq_none]
 intro k hk
 simp only [List.mem_cons, List.not_mem_nil, or_false] at hk
 simp only [decide_eq_true_eq]
 rcases hk with rfl | rfl | rfl | rfl <;> (intro e; injection e with e _; exact h e.symm)
theorem itoa_head (n : Int) : ∃ c r, itoa n = c :: r ∧ ((48 ≤ c.toNat ∧ c.toNat ≤ 57) ∨ (c = 45 ∧ r ≠ [])) := by
 unfold itoa
 split
 ·exact ⟨_, _, rfl, .inr ⟨rfl, decDigits_ne _⟩⟩
 obtain ⟨c, r, e, hc⟩ := head_digit (u := n.toNat)
 exact ⟨c, r, e, .inl (by simpa [isDig] using hc)⟩
theorem meant_tail {c : UInt8} {r : List UInt8} (h : c = 35 ∨ c = 34 ∨ c = 120 ∨ (48 ≤ c.toNat ∧ c.toNat ≤ 57) ∨ (c = 45 ∧ r ≠ [])) :
    meantS (c :: r) = if c = 35 then ⟨1, parseN r, []⟩ else if c = 34 then ⟨4, 0, (unqL (c :: r)).1⟩ else if c = 120 then ⟨5, 0, readX (c :: r)⟩ else ⟨2, parseN (c :: r), []⟩ := by
  have hc : c ≠ 110 ∧ c ≠ 116 ∧ c ≠ 102 := by
    rcases h with rfl | rfl | rfl | h | ⟨rfl, _⟩
    · decide
    · decide
    · decide
    · refine ⟨?_, ?_, ?_⟩ <;> (rintro rfl; exact absurd h (by decide))
    decide
  unfold meantS
  rw [no_sign h]
  dsimp only
  rw [no_null hc.1]
  dsimp only
  rw [if_neg (by unfold trueW; intro e; injection e with e _; exact hc.2.1 e), if_neg (by unfold falseW; intro e; injection e with e _; exact hc.2.2 e)]
  simp only [List.head?_cons, Option.some.injEq, List.drop_succ_cons, List.drop_zero]
theorem meant_word {x : StepM} (h : mayS x = true) (h0 : -9223372036854775808 ≤ x.n) (h1 : x.n ≤ 9223372036854775807) : meantS (wordS x) = x := by
 obtain ⟨k, n, s⟩ := x
 unfold mayS at h
 unfold wordS
 dsimp only at h h0 h1 ⊢
 by_cases k1 : k = 1
 ·subst k1
  rw [if_pos rfl] at h ⊢
  simp only [decide_eq_true_eq] at h
  rw [meant_tail (.inl rfl), if_pos rfl, parseN_itoa h0 h1, h.1]
 rw [if_neg k1] at h ⊢
 by_cases k2 : k = 2
 ·subst k2
  rw [if_pos rfl] at h ⊢
  simp only [decide_eq_true_eq] at h
  obtain ⟨c, r, e, hc⟩ := itoa_head n
  have hp := parseN_itoa h0 h1
  rw [e] at hp ⊢
  rw [meant_tail (.inr (.inr (.inr hc))), if_neg, if_neg, if_neg, hp, h]
  all_goals (rcases hc with hc | ⟨rfl, _⟩ <;> first | decide | (rintro rfl; exact absurd hc (by decide)))
 rw [if_neg k2] at h ⊢
 by_cases k3 : k = 3
 ·subst k3
  rw [if_pos rfl] at h ⊢
  simp only [decide_eq_true_eq] at h
  obtain ⟨rfl, ha, hb⟩ := h
  have : n = 0 ∨ n = 1 := by omega
  rcases this with rfl | rfl <;> rfl
 rw [if_neg k3] at h ⊢
 by_cases k4 : k = 4
 ·subst k4
  rw [if_pos rfl] at h ⊢
  simp only [decide_eq_true_eq] at h
  have hu := unq_text h.2.2
  have e := textW_eq s
  rw [e] at hu ⊢
  rw [meant_tail (.inr (.inl rfl)), if_neg (by decide), if_pos rfl, hu, h.1]
 rw [if_neg k4] at h ⊢
 by_cases k5 : k = 5
 ·subst k5
  rw [if_pos rfl] at h ⊢
  simp only [decide_eq_true_eq] at h
  rw [meant_tail (.inr (.inr (.inl rfl))), if_neg (by decide), if_neg (by decide), if_pos rfl]
  unfold readX
  simp only [List.drop_succ_cons, List.drop_zero, pairs_hex, true_and]
  rw [if_pos h.2, h.1]
 rw [if_neg k5] at h ⊢
 by_cases k6 : k = 6
 ·subst k6
  rw [if_pos rfl] at h ⊢
  simp only [decide_eq_true_eq] at h
  obtain ⟨rfl, hn⟩ := h
  have : n = 1 ∨ n = 3 ∨ n = 4 ∨ n = 5 := by omega
  rcases this with rfl | rfl | rfl | rfl <;> rfl
 rw [if_neg k6] at h ⊢
 simp only [decide_eq_true_eq] at h
 obtain ⟨ha, hb, rfl, rfl⟩ := h
 have : k = 7 ∨ k = 8 ∨ k = 9 ∨ k = 10 ∨ k = 11 ∨ k = 12 ∨ k = 13 ∨ k = 14 ∨ k = 15 ∨ k = 16 ∨ k = 17 ∨ k = 18 := by omega
 rcases this with rfl | rfl | rfl | rfl | rfl | rfl | rfl | rfl | rfl | rfl | rfl | rfl <;> rfl
/-! Expressions as texts. -/
def splitW (sep : UInt8) : List UInt8 → List (List UInt8)
 | [] => [[]]
 | c :: l => if c = sep then [] :: splitW sep l else match splitW sep l with
  | w :: ws => (c :: w) :: ws
  | [] => [[c]]
def goodW (x : StepM) (w : List UInt8) : Bool := mayS x && decide (wordS x = w)
def readAll : List (List UInt8) → Option (List StepM)
 | [] => some []
 | w :: l => if goodW (meantS w) w = true then (readAll l).map (meantS w :: ·) else none
def parseS (s : List UInt8) : List StepM × Int :=
 if 1048576 < s.length ∨ 64 ≤ s.count 32 then ([], 5) else if s = [] then ([], 0) else match readAll (splitW 32 s) with
  | some l => (l, 0)
  | none => ([], 4)

theorem parseN_fits (w : List UInt8) : -9223372036854775808 ≤ parseN w ∧ parseN w ≤ 9223372036854775807 := by
 unfold parseN
 split
 ·rename_i v h
  obtain ⟨h1, h2⟩ := parseIntB_bounds h
  simp at h1 h2
  omega
 ·unfold intSat
  split <;> simp
 omega
theorem meant_fits {w : List UInt8} (h : mayS (meantS w) = true) : -9223372036854775808 ≤ (meantS w).n ∧ (meantS w).n ≤ 9223372036854775807 := by
 unfold meantS at h ⊢
 split
 ·dsimp only; omega
 split
 ·rename_i k hk
  have := List.mem_of_find?_eq_some hk
  simp at this
  dsimp only
  omega
 repeat' split
 all_goals first | exact parseN_fits _ | (dsimp only; omega)
theorem goodW_iff {x : StepM} {w : List UInt8} : goodW x w = true ↔ mayS x = true ∧ wordS x = w := by
 unfold goodW
 rw [Bool.and_eq_true, decide_eq_true_eq]
/-! Words have no blanks. -/
theorem nb_itoa (n : Int) : ∀ c ∈ itoa n, c ≠ 32 := by
 intro c hc e
 subst e
 have key : ∀ u, (32 : UInt8) ∉ decDigits u := fun u h => by
  have := decDigits_dig u _ h
  simp [isDig] at this
 unfold itoa at hc
 split at hc
 ·rcases List.mem_cons.1 hc with h | h
  ·exact absurd h (by decide)
  exact key _ h
 exact key _ hc
theorem nb_quoteC (c : UInt8) : ∀ x ∈ quoteC c, x ≠ 32 := by
 have h1 : hexB (c.toNat / 16) ≠ 32 := hexB_ne (by have := c.toNat_lt; omega)
 have h2 : hexB (c.toNat % 16) ≠ 32 := hexB_ne (by omega)
 unfold quoteC quoteB
 repeat' split
 all_goals (intro x hx; simp only [List.mem_cons, List.not_mem_nil, or_false] at hx)
 all_goals first
  | (rcases hx with rfl | rfl | rfl | rfl | rfl | rfl <;> first | decide | assumption)
  | (rcases hx with rfl | rfl <;> decide)
  | (subst hx; assumption)
theorem len_quoteC (c : UInt8) : (quoteC c).length ≤ 6 := by
 unfold quoteC quoteB
 repeat' split
 all_goals simp
theorem len_flat {f : UInt8 → List UInt8} {k : Nat} (h : ∀ c, (f c).length ≤ k) : ∀ s : List UInt8, (s.flatMap f).length ≤ k * s.length
 | [] => by simp
 | c :: s => by
  have h1 := h c
  have h2 := len_flat h s
  rw [List.flatMap_cons, List.length_append, List.length_cons, Nat.mul_succ]
  omega
theorem nb_word {x : StepM} (h : mayS x = true) : ∀ c ∈ wordS x, c ≠ 32 := by
 obtain ⟨k, n, s⟩ := x
 unfold mayS at h
 unfold wordS
 dsimp only at h ⊢
 by_cases k1 : k = 1
 ·rw [if_pos k1]
  intro c hc
  rcases List.mem_cons.1 hc with rfl | hc
  ·decide
  exact nb_itoa n c hc
 rw [if_neg k1] at h ⊢
 by_cases k2 : k = 2
 ·rw [if_pos k2]; exact nb_itoa n
 rw [if_neg k2] at h ⊢
 by_cases k3 : k = 3
 ·rw [if_pos k3]
  split <;> decide
 rw [if_neg k3] at h ⊢
 by_cases k4 : k = 4
 ·rw [if_pos k4, textW_eq]
  intro c hc
  rcases List.mem_cons.1 hc with rfl | hc
  ·decide
  rcases List.mem_append.1 hc with hc | hc
  ·obtain ⟨y, _, hy⟩ := List.mem_flatMap.1 hc
   exact nb_quoteC y c hy
  simp only [List.mem_singleton] at hc; subst hc; decide
 rw [if_neg k4] at h ⊢
 by_cases k5 : k = 5
 ·rw [if_pos k5]
  intro c hc
  rcases List.mem_cons.1 hc with rfl | hc
  ·decide
  obtain ⟨y, _, hy⟩ := List.mem_flatMap.1 hc
  simp only [List.mem_cons, List.not_mem_nil, or_false] at hy
  rcases hy with rfl | rfl
  ·exact hexB_ne (by have := y.toNat_lt; omega)
  exact hexB_ne (by omega)
 rw [if_neg k5] at h ⊢
 by_cases k6 : k = 6
 ·subst k6
  rw [if_pos rfl] at h ⊢
  simp only [decide_eq_true_eq] at h
  obtain ⟨_, hn⟩ := h
  have : n = 1 ∨ n = 3 ∨ n = 4 ∨ n = 5 := by omega
  rcases this with rfl | rfl | rfl | rfl <;> decide
 rw [if_neg k6] at h ⊢
 simp only [decide_eq_true_eq] at h
 obtain ⟨ha, hb, _, _⟩ := h
 have : k = 7 ∨ k = 8 ∨ k = 9 ∨ k = 10 ∨ k = 11 ∨ k = 12 ∨ k = 13 ∨ k = 14 ∨ k = 15 ∨ k = 16 ∨ k = 17 ∨ k = 18 := by omega
 rcases this with rfl | rfl | rfl | rfl | rfl | rfl | rfl | rfl | rfl | rfl | rfl | rfl <;> decide
theorem itoa_len {n : Int} (h0 : -9223372036854775808 ≤ n) (h1 : n ≤ 9223372036854775807) : (itoa n).length ≤ 20 := by
 unfold itoa
 split
 ·have := decDigits_len 18 n.natAbs (by simp; omega)
  simp; omega
 have := decDigits_len 18 n.toNat (by simp; omega)
 omega
theorem len_word {x : StepM} (h : mayS x = true) (h0 : -9223372036854775808 ≤ x.n) (h1 : x.n ≤ 9223372036854775807) : (wordS x).length ≤ 6146 ∧ wordS x ≠ [] := by
 obtain ⟨k, n, s⟩ := x
 unfold mayS at h
 unfold wordS
 dsimp only at h h0 h1 ⊢
 have hi := itoa_len h0 h1
 obtain ⟨c, r, ei, _⟩ := itoa_head n
 by_cases k1 : k = 1
 ·rw [if_pos k1]; exact ⟨by simp; omega, by simp⟩
 rw [if_neg k1] at h ⊢
 by_cases k2 : k = 2
 ·rw [if_pos k2]; exact ⟨by omega, by rw [ei]; simp⟩
 rw [if_neg k2] at h ⊢
 by_cases k3 : k = 3
 ·rw [if_pos k3]
  split <;> exact ⟨by decide, by decide⟩
 rw [if_neg k3] at h ⊢
 by_cases k4 : k = 4
 ·rw [if_pos k4] at h ⊢
  simp only [decide_eq_true_eq] at h
  rw [textW_eq]
  have := len_flat len_quoteC s
  exact ⟨by simp only [List.length_cons, List.length_append, List.length_nil]; omega, by simp⟩
 rw [if_neg k4] at h ⊢
 by_cases k5 : k = 5
 ·rw [if_pos k5] at h ⊢
  simp only [decide_eq_true_eq] at h
  have : (hexL s).length ≤ 2 * s.length := len_flat (f := fun c : UInt8 => [hexB (c.toNat / 16), hexB (c.toNat % 16)]) (fun c => by simp) s
  exact ⟨by simp only [List.length_cons]; omega, by simp⟩
 rw [if_neg k5] at h ⊢
 by_cases k6 : k = 6
 ·subst k6
  rw [if_pos rfl] at h ⊢
  simp only [decide_eq_true_eq] at h
  obtain ⟨_, hn⟩ := h
  have : n = 1 ∨ n = 3 ∨ n = 4 ∨ n = 5 := by omega
  rcases this with rfl | rfl | rfl | rfl <;> exact ⟨by decide, by decide⟩
 rw [if_neg k6] at h ⊢
 simp only [decide_eq_true_eq] at h
 obtain ⟨ha, hb, _, _⟩ := h
 have : k = 7 ∨ k = 8 ∨ k = 9 ∨ k = 10 ∨ k = 11 ∨ k = 12 ∨ k = 13 ∨ k = 14 ∨ k = 15 ∨ k = 16 ∨ k = 17 ∨ k = 18 := by omega
 rcases this with rfl | rfl | rfl | rfl | rfl | rfl | rfl | rfl | rfl | rfl | rfl | rfl <;> exact ⟨by decide, by decide⟩
/-! Split and join. -/
theorem split_ne (sep : UInt8) : ∀ l : List UInt8, splitW sep l ≠ []
 | [] => by simp [splitW]
 | c :: l => by
  unfold splitW
  split
  ·simp
  split <;> simp
theorem split_cons {sep c : UInt8} {l : List UInt8} (h : c ≠ sep) : ∃ w ws, splitW sep l = w :: ws ∧ splitW sep (c :: l) = (c :: w) :: ws := by
 cases e : splitW sep l with
 | nil => exact absurd e (split_ne sep l)
 | cons w ws => exact ⟨w, ws, rfl, by rw [splitW, if_neg h, e]⟩
theorem split_word {sep : UInt8} {w : List UInt8} (h : ∀ c ∈ w, c ≠ sep) : splitW sep w = [w] := by
 induction w with
 | nil => rfl
 | cons c w ih =>
  obtain ⟨a, b, e1, e2⟩ := split_cons (l := w) (h c List.mem_cons_self)
  rw [ih fun x hx => h x (List.mem_cons_of_mem _ hx)] at e1
  injection e1 with e1 e3
  rw [e2, ← e1, ← e3]
theorem split_app {sep : UInt8} {w l : List UInt8} (h : ∀ c ∈ w, c ≠ sep) : splitW sep (w ++ sep :: l) = w :: splitW sep l := by
 induction w with
 | nil => rw [List.nil_append, splitW, if_pos rfl]
 | cons c w ih =>
  obtain ⟨a, b, e1, e2⟩ := split_cons (l := w ++ sep :: l) (h c List.mem_cons_self)
  rw [ih fun x hx => h x (List.mem_cons_of_mem _ hx)] at e1
  injection e1 with e1 e3
  rw [List.cons_append, e2, ← e1, ← e3]
theorem split_join {sep : UInt8} : ∀ {ws : List (List UInt8)}, ws ≠ [] → (∀ w ∈ ws, ∀ c ∈ w, c ≠ sep) → splitW sep (joinW sep ws) = ws
 | [], h, _ => absurd rfl h
 | [w], _, h => split_word (h w List.mem_cons_self)
 | w :: w' :: ws, _, h => by
  show splitW sep (w ++ sep :: joinW sep (w' :: ws)) = _
  rw [split_app (h w List.mem_cons_self), split_join (by simp) fun x hx => h x (List.mem_cons_of_mem _ hx)]
theorem join_split (sep : UInt8) : ∀ l : List UInt8, joinW sep (splitW sep l) = l
 | [] => rfl
 | c :: l => by
  have ih := join_split sep l
  by_cases h : c = sep
  ·rw [splitW, if_pos h]
   obtain ⟨w, ws, e⟩ : ∃ w ws, splitW sep l = w :: ws := by
    cases e : splitW sep l with
    | nil => exact absurd e (split_ne sep l)
    | cons w ws => exact ⟨w, ws, rfl⟩
   rw [e] at ih ⊢
   show [] ++ sep :: joinW sep (w :: ws) = _
   rw [ih, h]; rfl
  obtain ⟨w, ws, e1, e2⟩ := split_cons (l := l) h
  rw [e2]
  rw [e1] at ih
  cases ws with
  | nil => show c :: w = _; rw [← ih]; rfl
  | cons w' ws => show (c :: w) ++ sep :: joinW sep (w' :: ws) = _; rw [← ih]; rfl
theorem count_split (sep : UInt8) : ∀ l : List UInt8, (splitW sep l).length = l.count sep + 1
 | [] => rfl
 | c :: l => by
  have ih := count_split sep l
  by_cases h : c = sep
  ·rw [splitW, if_pos h, List.length_cons, ih, h, List.count_cons_self]
  obtain ⟨w, ws, e1, e2⟩ := split_cons (l := l) h
  rw [e1] at ih
  rw [e2, List.count_cons_of_ne h]
  simpa using ih
theorem len_join (sep : UInt8) {k : Nat} : ∀ {ws : List (List UInt8)}, (∀ w ∈ ws, w.length ≤ k) → (joinW sep ws).length ≤ (k + 1) * ws.length
 | [], _ => by simp [joinW]
 | [w], h => by have := h w List.mem_cons_self; simp [joinW]; omega
 | w :: w' :: ws, h => by
  have h1 := h w List.mem_cons_self
  have h2 := len_join sep (ws := w' :: ws) fun x hx => h x (List.mem_cons_of_mem _ hx)
  show (w ++ sep :: joinW sep (w' :: ws)).length ≤ _
  simp only [List.length_append, List.length_cons] at h2 ⊢
  rw [Nat.mul_succ]
  omega
theorem readAll_words : ∀ {l : List StepM}, (∀ x ∈ l, mayS x = true ∧ -9223372036854775808 ≤ x.n ∧ x.n ≤ 9223372036854775807) → readAll (l.map wordS) = some l
 | [], _ => rfl
 | x :: l, h => by
  obtain ⟨h1, h2, h3⟩ := h x List.mem_cons_self
  have e := meant_word h1 h2 h3
  rw [List.map_cons, readAll, e, if_pos (goodW_iff.2 ⟨h1, rfl⟩), readAll_words fun y hy => h y (List.mem_cons_of_mem _ hy)]
  rfl
theorem readAll_some : ∀ {ws : List (List UInt8)} {l : List StepM}, readAll ws = some l → l.map wordS = ws ∧ ∀ x ∈ l, mayS x = true ∧ -9223372036854775808 ≤ x.n ∧ x.n ≤ 9223372036854775807
 | [], l, h => by simp [readAll] at h; subst h; exact ⟨rfl, fun _ h => by cases h⟩
 | w :: ws, l, h => by
  rw [readAll] at h
  split at h
  ·rename_i hg
   obtain ⟨m, hm, rfl⟩ := Option.map_eq_some_iff.1 h
   obtain ⟨h1, h2⟩ := goodW_iff.1 hg
   obtain ⟨h3, h4⟩ := readAll_some hm
   refine ⟨by rw [List.map_cons, h2, h3], fun x hx => ?_⟩
   rcases List.mem_cons.1 hx with rfl | hx
   ·exact ⟨h1, meant_fits h1⟩
   exact h4 x hx
  cases h
theorem parse_text {l : List StepM} (h : ∀ x ∈ l, mayS x = true ∧ -9223372036854775808 ≤ x.n ∧ x.n ≤ 9223372036854775807) (hl : l.length ≤ 64) : textS l = (joinW 32 (l.map wordS), 0) ∧ parseS (joinW 32 (l.map wordS)) = (l, 0) ∧ (l ≠ [] → (joinW 32 (l.map wordS)).count 32 = l.length - 1) := by
 refine ⟨?_, ?_⟩
 ·unfold textS
  rw [if_neg (by omega), if_neg]
  rw [Bool.not_eq_false, List.all_eq_true]
  exact fun x hx => (h x hx).1
 by_cases h0 : l = []
 ·subst h0; exact ⟨rfl, fun h => absurd rfl h⟩
 have hne : l.map wordS ≠ [] := by simpa using h0
 have hnb : ∀ w ∈ l.map wordS, ∀ c ∈ w, c ≠ 32 := fun w hw => by
  obtain ⟨x, hx, rfl⟩ := List.mem_map.1 hw
  exact nb_word (h x hx).1
 have hs := split_join hne hnb
 have hc := count_split 32 (joinW 32 (l.map wordS))
 rw [hs, List.length_map] at hc
 have hlen : (joinW 32 (l.map wordS)).length ≤ (6146 + 1) * (l.map wordS).length := len_join 32 fun w hw => by
  obtain ⟨x, hx, rfl⟩ := List.mem_map.1 hw
  exact (len_word (h x hx).1 (h x hx).2.1 (h x hx).2.2).1
 rw [List.length_map] at hlen
 have hnn : joinW 32 (l.map wordS) ≠ [] := by
  intro e
  rw [e] at hs
  have : l.map wordS = [[]] := hs.symm
  cases l with
  | nil => exact h0 rfl
  | cons x l =>
   simp only [List.map_cons, List.cons.injEq] at this
   exact (len_word (h x List.mem_cons_self).1 (h x List.mem_cons_self).2.1 (h x List.mem_cons_self).2.2).2 this.1
 refine ⟨?_, fun _ => by omega⟩
 unfold parseS
 rw [if_neg (by omega), if_neg hnn, hs, readAll_words h]
theorem text_parse {s : List UInt8} {l : List StepM} (h : parseS s = (l, 0)) : textS l = (s, 0) := by
 unfold parseS at h
 split at h
 ·injection h with _ h; cases h
 rename_i hb
 split at h
 ·rename_i h0
  injection h with h _
  subst h; subst h0; rfl
 split at h
 ·rename_i m hm
  injection h with h _
  subst h
  obtain ⟨h1, h2⟩ := readAll_some hm
  have hc := count_split 32 s
  rw [← h1, List.length_map] at hc
  have := (parse_text h2 (by omega)).1
  rw [this, h1, join_split]
 injection h with _ h; cases h
end Go.Proofs.YtolaedhdjcnijaaGreatDoor
