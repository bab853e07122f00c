/-
 Literals of texts and bytes, told plainly; what is written is read back. No program stands here.
-/
import Derived.Test.YtolaedhdjcnijaaGreatDoorKk2
import Derived.Lib.ItoaNum
import Derived.Lib.ParseIntBTie
import Derived.Lib.Bytealg
import Derived.Laws.BitsLemmas
import Derived.Lib.AppendStr
set_option linter.unusedVariables false
set_option linter.unusedSimpArgs false
namespace Go.Proofs.YtolaedhdjcnijaaGreatDoor
open Go Go.Lib

def jH (n : Nat) : UInt8 := if n < 10 then (48 + n).toUInt8 else (87 + n).toUInt8
def eP (c : UInt8) : List UInt8 :=
 if c = 34 then [92, 34] else if c = 92 then [92, 92] else if c = 8 then [92, 98] else if c = 12 then [92, 102] else if c = 10 then [92, 110] else if c = 13 then [92, 114] else if c = 9 then [92, 116]
 else if c < 32 then [92, 117, 48, 48, jH (c.toNat / 16), jH (c.toNat % 16)] else [c]
def iR (s : List UInt8) : List UInt8 := 34 :: (s.flatMap eP ++ [34])
def fG (c : UInt8) : Option Nat := if 48 ≤ c.toNat ∧ c.toNat ≤ 57 then some (c.toNat - 48) else if 97 ≤ c.toNat ∧ c.toNat ≤ 102 then some (c.toNat - 87) else if 65 ≤ c.toNat ∧ c.toNat ≤ 70 then some (c.toNat - 55) else none
def jF (s : List UInt8) (second : Bool) : Nat × Int :=
 match s[0]? with
 | none => (0, 3)
 | some c0 => match fG c0 with
  | none => (0, 41)
  | some d0 => if second = true ∧ d0 ≠ 13 then (0, 41) else match s[1]? with
   | none => (0, 3)
   | some c1 => match fG c1 with
    | none => (0, 41)
    | some d1 => if second ≠ decide (220 ≤ 16 * d0 + d1 ∧ 16 * d0 + d1 ≤ 223) then (0, 41) else match s[2]? with
     | none => (0, 3)
     | some c2 => match fG c2 with
      | none => (0, 41)
      | some d2 => match s[3]? with
       | none => (0, 3)
       | some c3 => match fG c3 with
        | none => (0, 41)
        | some d3 => (16 * (16 * (16 * d0 + d1) + d2) + d3, 0)
def q8 (c : UInt8) : Option UInt8 :=
 if c = 34 then some 34 else if c = 92 then some 92 else if c = 47 then some 47 else if c = 98 then some 8 else if c = 102 then some 12 else if c = 110 then some 10 else if c = 114 then some 13 else if c = 116 then some 9 else none
def BQ (s : List UInt8) (n : Nat) : List UInt8 × Nat × Int :=
 match s[6]? with
 | none => ([], 0, 3)
 | some c6 => if c6 ≠ 92 then ([], 0, 41) else match s[7]? with
  | none => ([], 0, 3)
  | some c7 => if c7 ≠ 117 then ([], 0, 41) else
   let k := jF (s.drop 8) true
   if k.2 ≠ 0 then ([], 0, k.2) else (encodeRune (65536 + 1024 * ((n : Int) - 55296) + k.1 - 56320), 12, 0)
def jh (s : List UInt8) : List UInt8 × Nat × Int :=
 match s[1]? with
 | none => ([], 0, 3)
 | some c => match q8 c with
  | some b => ([b], 2, 0)
  | none => if c ≠ 117 then ([], 0, 41) else
   let h := jF (s.drop 2) false
   if h.2 ≠ 0 then ([], 0, h.2)
   else if h.1 < 55296 ∨ 56319 < h.1 then (encodeRune h.1, 6, 0)
   else BQ s h.1
def jL : List UInt8 → Bool
  | [a] => decide (194 ≤ a.toNat ∧ a.toNat ≤ 244)
  | [a, b] => decide ((a.toNat = 224 ∧ 160 ≤ b.toNat ∧ b.toNat ≤ 191) ∨ ((225 ≤ a.toNat ∧ a.toNat ≤ 236 ∨ 238 ≤ a.toNat ∧ a.toNat ≤ 239) ∧ 128 ≤ b.toNat ∧ b.toNat ≤ 191) ∨ (a.toNat = 237 ∧ 128 ≤ b.toNat ∧ b.toNat ≤ 159) ∨
      (a.toNat = 240 ∧ 144 ≤ b.toNat ∧ b.toNat ≤ 191) ∨ (241 ≤ a.toNat ∧ a.toNat ≤ 243 ∧ 128 ≤ b.toNat ∧ b.toNat ≤ 191) ∨ (a.toNat = 244 ∧ 128 ≤ b.toNat ∧ b.toNat ≤ 143))
  | [a, b, c] => decide (((a.toNat = 240 ∧ 144 ≤ b.toNat ∧ b.toNat ≤ 191) ∨ (241 ≤ a.toNat ∧ a.toNat ≤ 243 ∧ 128 ≤ b.toNat ∧ b.toNat ≤ 191) ∨ (a.toNat = 244 ∧ 128 ≤ b.toNat ∧ b.toNat ≤ 143)) ∧ 128 ≤ c.toNat ∧ c.toNat ≤ 191)
  | _ => false
def oC : Nat → List UInt8 → Nat → List UInt8 → List UInt8 × Nat × Int
 | 0, _, _, _ => ([], 0, 3)
 | f + 1, rest, i, out => match rest with
  | [] => ([], 0, 3)
  | c :: t => if c = 34 then (out, i + 1, 0) else if c < 32 then ([], 0, 41)
   else if c = 92 then (let e := jh (c :: t); if e.2.2 ≠ 0 then ([], 0, e.2.2) else oC f ((c :: t).drop e.2.1) (i + e.2.1) (out ++ e.1))
   else match d9 (c :: t) with
    | some (_, n) => oC f ((c :: t).drop n) (i + n) (out ++ (c :: t).take n)
    | none => ([], 0, if jL (c :: t) then 3 else 40)
def q9 (s : List UInt8) : List UInt8 × Nat × Int :=
 match s with
 | [] => ([], 0, 3)
 | c :: t => if c ≠ 34 then ([], 0, 41) else oC (t.length + 1) t 1 []
theorem yG (s : List UInt8) : (∃ e : Int, e ≠ 0 ∧ jh s = ([], 0, e)) ∨ ∃ b n, 1 ≤ n ∧ jh s = (b, n, 0) := by
 obtain ⟨x, hx⟩ : ∃ x, x = jh s := ⟨_, rfl⟩
 rw [← hx]
 unfold jh BQ at hx
 dsimp only at hx
 repeat' split at hx
 all_goals first
  | exact .inl ⟨_, by decide, hx⟩
  | exact .inr ⟨_, _, by decide, hx⟩
  | exact .inl ⟨_, by assumption, hx⟩
theorem Qb : ∀ {f g : Nat} {rest : List UInt8} {i : Nat} {out : List UInt8}, rest.length < f → rest.length < g → oC f rest i out = oC g rest i out := by
 intro f
 induction f with
 | zero => intro g rest i out h; exact absurd h (Nat.not_lt_zero _)
 | succ f ih =>
  intro g rest i out hf hg
  cases g with
  | zero => exact absurd hg (Nat.not_lt_zero _)
  | succ g =>
   cases rest with
   | nil => rfl
   | cons c t =>
    unfold oC
    have Xo : ∀ k, 1 ≤ k → ((c :: t).drop k).length < f ∧ ((c :: t).drop k).length < g := fun k hk => by
     rw [List.length_drop]
     simp only [List.length_cons] at hf hg ⊢
     omega
    dsimp only
    split
    ·rfl
    split
    ·rfl
    split
    ·split
     ·rfl
     rename_i he
     have h1 : 1 ≤ (jh (c :: t)).2.1 := by
      rcases yG (c :: t) with ⟨e, h0, hx⟩ | ⟨b, n, hn, hx⟩
      ·rw [hx] at he; exact absurd h0 he
      rw [hx]; exact hn
     obtain ⟨a, b⟩ := Xo _ h1
     exact ih a b
    cases hn : d9 (c :: t) with
    | none => rfl
    | some x =>
     obtain ⟨r, n⟩ := x
     obtain ⟨_, h1, _, _⟩ := pU hn
     obtain ⟨a, b⟩ := Xo _ h1
     exact ih a b

structure dH where
 kind : Int
 null : Bool
structure iB where
 null : Bool
 n : Int
 s : List UInt8
structure gG where
 id : Int
 name : List UInt8
 type : dH
 dflt : iB
structure bL where
 kind : Int
 n : Int
 s : List UInt8
theorem dH.ext' {a b : dH} (h1 : a.kind = b.kind) (h2 : a.null = b.null) : a = b := by cases a; cases b; simp_all
theorem iB.ext' {a b : iB} (h1 : a.null = b.null) (h2 : a.n = b.n) (h3 : a.s = b.s) : a = b := by cases a; cases b; simp_all
theorem bL.ext' {a b : bL} (h1 : a.kind = b.kind) (h2 : a.n = b.n) (h3 : a.s = b.s) : a = b := by cases a; cases b; simp_all
theorem gG.ext' {a b : gG} (h1 : a.id = b.id) (h2 : a.name = b.name) (h3 : a.type = b.type) (h4 : a.dflt = b.dflt) : a = b := by cases a; cases b; simp_all
instance : DecidableEq dH := fun a b => decidable_of_iff (a.kind = b.kind ∧ a.null = b.null) ⟨fun h => dH.ext' h.1 h.2, fun h => by subst h; exact ⟨rfl, rfl⟩⟩
instance : DecidableEq iB := fun a b => decidable_of_iff (a.null = b.null ∧ a.n = b.n ∧ a.s = b.s) ⟨fun h => iB.ext' h.1 h.2.1 h.2.2, fun h => by subst h; exact ⟨rfl, rfl, rfl⟩⟩
instance : DecidableEq bL := fun a b => decidable_of_iff (a.kind = b.kind ∧ a.n = b.n ∧ a.s = b.s) ⟨fun h => bL.ext' h.1 h.2.1 h.2.2, fun h => by subst h; exact ⟨rfl, rfl, rfl⟩⟩
instance : DecidableEq gG := fun a b => decidable_of_iff (a.id = b.id ∧ a.name = b.name ∧ a.type = b.type ∧ a.dflt = b.dflt) ⟨fun h => gG.ext' h.1 h.2.1 h.2.2.1 h.2.2.2, fun h => by subst h; exact ⟨rfl, rfl, rfl, rfl⟩⟩
def cell0 : iB := ⟨false, 0, []⟩
def KH : iB := ⟨true, 0, []⟩
def fu : dH := ⟨0, false⟩
def nL (t : dH) : Bool := decide (1 ≤ t.kind ∧ t.kind ≤ 5)
def isC (kind : Int) (c : iB) : Bool :=
 if kind = 1 then decide (c.s = [] ∧ 0 ≤ c.n ∧ c.n ≤ 1)
 else if kind = 2 then decide (c.s = [] ∧ -2147483648 ≤ c.n ∧ c.n ≤ 2147483647)
 else if kind = 3 then decide (c.s = [])
 else if kind = 4 then decide (c.n = 0 ∧ c.s.length ≤ 1024 ∧ validD c.s = true)
 else decide (c.n = 0 ∧ c.s.length ≤ 1024)
def jE (t : dH) (c : iB) : Int :=
 if nL t = false then 2 else if c.null = true then (if t.null = true ∧ c = KH then 0 else 90) else if isC t.kind c = true then 0 else 90
def dI (x : bL) : Bool :=
 if x.kind = 1 then decide (x.s = [] ∧ 1 ≤ x.n ∧ x.n ≤ 1048576)
 else if x.kind = 2 then decide (x.s = [])
 else if x.kind = 3 then decide (x.s = [] ∧ 0 ≤ x.n ∧ x.n ≤ 1)
 else if x.kind = 4 then decide (x.n = 0 ∧ x.s.length ≤ 1024 ∧ validD x.s = true)
 else if x.kind = 5 then decide (x.n = 0 ∧ x.s.length ≤ 1024)
 else if x.kind = 6 then decide (x.s = [] ∧ (x.n = 1 ∨ (3 ≤ x.n ∧ x.n ≤ 5)))
 else decide (7 ≤ x.kind ∧ x.kind ≤ 18 ∧ x.n = 0 ∧ x.s = [])
def gD (kind : Int) : Nat := if kind < 7 then 0 else if kind = 10 ∨ kind = 15 ∨ kind = 16 ∨ kind = 18 then 1 else 2
def nS (cols : List gG) (id : Int) : Option Nat := cols.findIdx? fun c => decide (c.id = id)
def oZ (cols : List gG) (x : bL) : Option dH :=
 if x.kind = 1 then (match nS cols x.n with
  | none => none
  | some i => let t := (cols.getD i ⟨0, [], fu, cell0⟩).type
   if nL t = false then none else some (if t.kind = 2 then ⟨3, t.null⟩ else t))
 else if x.kind = 2 then some ⟨3, false⟩
 else if x.kind = 3 then some ⟨1, false⟩
 else if x.kind = 4 then some ⟨4, false⟩
 else if x.kind = 5 then some ⟨5, false⟩
 else some ⟨x.n, true⟩
def qM (kind : Int) (a b : dH) : Option dH :=
 if kind = 7 ∨ kind = 8 ∨ kind = 9 ∨ kind = 10 then (if a.kind = 3 ∧ b.kind = 3 then some ⟨3, a.null || b.null⟩ else none)
 else if kind = 11 ∨ kind = 12 then (if a.kind = b.kind then some ⟨1, a.null || b.null⟩ else none)
 else if kind = 13 ∨ kind = 14 ∨ kind = 15 then (if a.kind = 1 ∧ b.kind = 1 then some ⟨1, a.null || b.null⟩ else none)
 else if kind = 16 then some ⟨1, false⟩
 else if kind = 17 then (if a.kind = b.kind then some ⟨a.kind, a.null && b.null⟩ else none)
 else (if a.kind = 4 ∨ a.kind = 5 then some ⟨3, a.null || b.null⟩ else none)
def stepT (cols : List gG) (st : List dH) (x : bL) : Option (List dH) :=
 let k := gD x.kind
 if dI x = false ∨ st.length < k then none
 else (if k = 0 then oZ cols x else qM x.kind (st.getD (st.length - k) fu) (st.getD (st.length - 1) fu)).map fun t => st.take (st.length - k) ++ [t]
def runT (cols : List gG) : List dH → List bL → Option (List dH)
 | st, [] => some st
 | st, x :: l => (stepT cols st x).bind fun st => runT cols st l
def iT (cols : List gG) (l : List bL) : dH × Int :=
 if 64 < l.length then (fu, 5) else match runT cols [] l with
  | some [t] => (t, 0)
  | _ => (fu, 220)
def eH (k : Int) : List Int → List Int
 | [] => [k]
 | x :: l => if x < k then x :: eH k l else if x = k then x :: l else k :: x :: l
def o7 (l : List bL) : List Int := (l.filter fun x => decide (x.kind = 1)).foldl (fun a x => eH x.n a) []
/-! Words. -/
def lQ (k : Int) : List UInt8 := if k = 1 then [110, 117, 108, 108, 58, 98, 111, 111, 108] else if k = 3 then [110, 117, 108, 108, 58, 105, 110, 116, 54, 52] else if k = 4 then [110, 117, 108, 108, 58, 115, 116, 114, 105, 110, 103] else if k = 5 then [110, 117, 108, 108, 58, 98, 121, 116, 101, 115] else []
def eG : List (List UInt8) := [[43], [45], [42], [110, 101, 103], [61], [60], [97, 110, 100], [111, 114], [110, 111, 116], [105, 115, 110, 117, 108, 108], [101, 108, 115, 101], [108, 101, 110]]
def pG (s : List UInt8) : List UInt8 := s.flatMap fun c => [jH (c.toNat / 16), jH (c.toNat % 16)]
def FM (s : List UInt8) : List UInt8 := (iR s).flatMap fun c => if c = 32 then [92, 117, 48, 48, 50, 48] else [c]
def dO (x : bL) : List UInt8 :=
 if x.kind = 1 then 35 :: itoa x.n
 else if x.kind = 2 then itoa x.n
 else if x.kind = 3 then (if x.n = 1 then [116, 114, 117, 101] else [102, 97, 108, 115, 101])
 else if x.kind = 4 then FM x.s
 else if x.kind = 5 then 120 :: pG x.s
 else if x.kind = 6 then lQ x.n
 else eG.getD (x.kind - 7).toNat []
def fA (sep : UInt8) : List (List UInt8) → List UInt8
 | [] => []
 | [w] => w
 | w :: l => w ++ sep :: fA sep l
def eY (l : List bL) : List UInt8 × Int :=
 if 64 < l.length then ([], 5) else if (l.all dI) = false then ([], 2) else (fA 32 (l.map dO), 0)

theorem qN {l : List UInt8} {r n : Nat} (h : d9 l = some (r, n)) : 1 ≤ n ∧ n ≤ 4 ∧ n ≤ l.length ∧ okL l n ∧ r = qZ (l.take n) := by
 by_cases hk : ∃ k, 1 ≤ k ∧ k ≤ 4 ∧ k ≤ l.length ∧ okL l k
 ·obtain ⟨k, h1, h4, hl, fK⟩ := hk
  rw [nV h1 h4 hl fK] at h
  injection h with h
  injection h with h2 h3
  subst h3
  exact ⟨h1, h4, hl, fK, h2.symm⟩
 rw [Aj fun k h1 h4 hl fK => hk ⟨k, h1, h4, hl, fK⟩] at h
 cases h
theorem Tn {l : List UInt8} {r n : Nat} (h : d9 l = some (r, n)) (t : List UInt8) : d9 (l.take n ++ t) = some (r, n) := by
 obtain ⟨h1, h4, hl, fK, hr⟩ := qN h
 have e : (l.take n ++ t).take n = l.take n := by
  rw [List.take_append_of_le_length (by rw [List.length_take]; omega), List.take_take, Nat.min_self]
 have hok' : okL (l.take n ++ t) n := by unfold okL at fK ⊢; rw [e]; exact fK
 rw [nV h1 h4 (by rw [List.length_append, List.length_take]; omega) hok', e, hr]
theorem Dj {c : UInt8} {t : List UInt8} (h : c.toNat < 128) : d9 (c :: t) = some (c.toNat, 1) := by
 have := nV (l := c :: t) (k := 1) (by omega) (by omega) (by simp) (ok1.2 h)
 simpa [qZ] using this
theorem Qc {l : List UInt8} {r n : Nat} (h : d9 l = some (r, n)) (hn : n ≠ 1) : ∀ c ∈ l.take n, 128 ≤ c.toNat := by
 obtain ⟨h1, h4, hl, fK, _⟩ := qN h
 have JL : n = 2 ∨ n = 3 ∨ n = 4 := by omega
 rcases JL with rfl | rfl | rfl
 ·obtain ⟨a, b, t, rfl⟩ : ∃ a b t, l = a :: b :: t := by match l, hl with | a :: b :: t, _ => exact ⟨a, b, t, rfl⟩
  obtain ⟨h2, h3, _⟩ := ok2.1 fK
  intro c hc
  simp at hc
  rcases hc with rfl | rfl <;> omega
 ·obtain ⟨a, b, c, t, rfl⟩ : ∃ a b c t, l = a :: b :: c :: t := by match l, hl with | a :: b :: c :: t, _ => exact ⟨a, b, c, t, rfl⟩
  obtain ⟨h2, h3, h5, _⟩ := ok3.1 fK
  intro x hc
  simp at hc
  rcases hc with rfl | rfl | rfl <;> omega
 obtain ⟨a, b, c, d, t, rfl⟩ : ∃ a b c d t, l = a :: b :: c :: d :: t := by match l, hl with | a :: b :: c :: d :: t, _ => exact ⟨a, b, c, d, t, rfl⟩
 obtain ⟨h2, h3, h5, h6, _⟩ := ok4.1 fK
 intro x hc
 simp at hc
 rcases hc with rfl | rfl | rfl | rfl <;> omega
theorem Tp {l : List UInt8} {r : Nat} (h : d9 l = some (r, 1)) : ∃ c t, l = c :: t ∧ c.toNat < 128 := by
 obtain ⟨h1, h4, hl, fK, _⟩ := qN h
 cases l with
 | nil => simp at hl
 | cons c t => exact ⟨c, t, rfl, ok1.1 fK⟩
theorem Qd {p : List UInt8 → Prop} (h0 : p []) (h1 : ∀ c t, c.toNat < 128 → validD t = true → p t → p (c :: t))
    (h2 : ∀ l r n, d9 l = some (r, n) → n ≠ 1 → validD (l.drop n) = true → p (l.drop n) → p l) : ∀ {l : List UInt8}, validD l = true → p l := by
  intro l
  induction hk : l.length using Nat.strongRecOn generalizing l with
  | _ k ih =>
    intro hv
    cases l with
    | nil => exact h0
    | cons a u =>
      rw [yF (by simp)] at hv
      cases hn : d9 (a :: u) with
      | none => rw [hn] at hv; cases hv
      | some x =>
        obtain ⟨r, n⟩ := x
        rw [hn] at hv
        dsimp only at hv
        obtain ⟨k1, _, k3, _, _⟩ := qN hn
        have Rk := ih ((a :: u).drop n).length (by rw [List.length_drop, ← hk]; simp only [List.length_cons] at k3 ⊢; omega) rfl hv
        by_cases he : n = 1
        · subst he
          obtain ⟨c, t, e, hc⟩ := Tp hn
          injection e with e1 e2
          subst e1; subst e2
          exact h1 a u hc hv Rk
        exact h2 _ r n hn he hv Rk
def gF (c : UInt8) : List UInt8 := if c = 32 then [92, 117, 48, 48, 50, 48] else eP c
theorem Bj {c : UInt8} (h : 128 ≤ c.toNat) : eP c = [c] := by
 unfold eP
 have e : ∀ k : UInt8, k.toNat < 128 → c ≠ k := fun k hk e => by subst e; omega
 rw [if_neg (e _ (by decide)), if_neg (e _ (by decide)), if_neg (e _ (by decide)), if_neg (e _ (by decide)), if_neg (e _ (by decide)), if_neg (e _ (by decide)), if_neg (e _ (by decide)), if_neg (fun h2 => by have := UInt8.lt_iff_toNat_lt.1 h2; simp at this; omega)]
theorem KI {c : UInt8} (h : 128 ≤ c.toNat) : gF c = [c] := by
 unfold gF
 rw [if_neg (fun e => by subst e; simp at h), Bj h]
theorem vZ {n : Nat} (h : n < 16) : jH n ≠ 32 := by
 have : ∀ n : Fin 16, jH n.val ≠ 32 := by decide
 exact this ⟨n, h⟩
theorem KJ (c : UInt8) : (eP c).flatMap (fun c => if c = 32 then [92, 117, 48, 48, 50, 48] else [c]) = gF c := by
 unfold gF
 by_cases h : c = 32
 ·subst h; rfl
 rw [if_neg h]
 have h1 : jH (c.toNat / 16) ≠ 32 := vZ (by have := c.toNat_lt; omega)
 have h2 : jH (c.toNat % 16) ≠ 32 := vZ (by omega)
 unfold eP
 repeat' split
 all_goals simp_all
theorem rT (s : List UInt8) : FM s = 34 :: (s.flatMap gF ++ [34]) := by
 unfold FM iR
 rw [List.flatMap_cons, List.flatMap_append, List.flatMap_assoc]
 have e : (fun c => (eP c).flatMap (fun c => if c = 32 then [92, 117, 48, 48, 50, 48] else [c])) = gF := funext KJ
 rw [e]
 rfl
theorem FN {d : Nat} (h : d < 16) : fG (jH d) = some d := by
 have : ∀ d : Fin 16, fG (jH d.val) = some d.val := by decide
 exact this ⟨d, h⟩
theorem Tq {a b : Nat} {t : List UInt8} (ha : a < 16) (hb : b < 16) : jF (48 :: 48 :: jH a :: jH b :: t) false = (16 * a + b, 0) := by
 have e : fG 48 = some 0 := rfl
 unfold jF
 simp [e, FN ha, FN hb]
theorem VH {c : UInt8} (h : c.toNat < 128) : encodeRune (c.toNat : Int) = [c] := by
 rw [encodeRune, encodeRuneZ_one (by omega) (by omega)]
 simp
theorem VI {c : UInt8} {t : List UInt8} (h : c.toNat < 128) : jh (92 :: 117 :: 48 :: 48 :: jH (c.toNat / 16) :: jH (c.toNat % 16) :: t) = ([c], 6, 0) := by
 have hh := Tq (t := t) (show c.toNat / 16 < 16 by omega) (show c.toNat % 16 < 16 by omega)
 have e2 : 16 * (c.toNat / 16) + c.toNat % 16 = c.toNat := by omega
 rw [e2] at hh
 have e3 : q8 117 = none := rfl
 unfold jh
 simp only [List.getElem?_cons_succ, List.getElem?_cons_zero, e3, List.drop_succ_cons, List.drop_zero, hh]
 simp only [ne_eq, not_true_eq_false, if_false]
 rw [if_pos (.inl (by omega)), VH h]
theorem Tt {c : UInt8} (h : c.toNat < 128) (f i : Nat) (u out : List UInt8) : oC (f + 1) (gF c ++ u) i out = oC f u (i + (gF c).length) (out ++ [c]) := by
 have key : ∀ x b : UInt8, q8 x = some b → oC (f + 1) (92 :: x :: u) i out = oC f u (i + 2) (out ++ [b]) := by
  intro x b hx
  have e : jh (92 :: x :: u) = ([b], 2, 0) := by
   unfold jh
   simp only [List.getElem?_cons_succ, List.getElem?_cons_zero, hx]
  rw [oC]
  simp only [e]
  simp
 have key2 : oC (f + 1) (92 :: 117 :: 48 :: 48 :: jH (c.toNat / 16) :: jH (c.toNat % 16) :: u) i out = oC f u (i + 6) (out ++ [c]) := by
  rw [oC]
  simp only [VI h]
  simp
 unfold gF
 by_cases h0 : c = 32
 ·subst h0; rw [if_pos rfl]; exact key2
 rw [if_neg h0]
 unfold eP
 by_cases h1 : c = 34
 ·subst h1; exact key 34 34 rfl
 rw [if_neg h1]
 by_cases h2 : c = 92
 ·subst h2; exact key 92 92 rfl
 rw [if_neg h2]
 by_cases h3 : c = 8
 ·subst h3; exact key 98 8 rfl
 rw [if_neg h3]
 by_cases h4 : c = 12
 ·subst h4; exact key 102 12 rfl
 rw [if_neg h4]
 by_cases h5 : c = 10
 ·subst h5; exact key 110 10 rfl
 rw [if_neg h5]
 by_cases h6 : c = 13
 ·subst h6; exact key 114 13 rfl
 rw [if_neg h6]
 by_cases h7 : c = 9
 ·subst h7; exact key 116 9 rfl
 rw [if_neg h7]
 by_cases h8 : c < 32
 ·rw [if_pos h8]; exact key2
 rw [if_neg h8]
 show oC (f + 1) (c :: u) i out = _
 rw [oC]
 simp only [h1, h8, h2, if_false, Dj h]
 simp
theorem Qe {l : List UInt8} (h : ∀ c ∈ l, 128 ≤ c.toNat) : l.flatMap gF = l := by
 induction l with
 | nil => rfl
 | cons c l ih =>
  rw [List.flatMap_cons, KI (h c List.mem_cons_self), ih fun x hx => h x (List.mem_cons_of_mem _ hx)]
  rfl
theorem Tv {s : List UInt8} (hv : validD s = true) : ∀ (f i : Nat) (u out : List UInt8), (s.flatMap gF ++ 34 :: u).length ≤ f → oC f (s.flatMap gF ++ 34 :: u) i out = (out ++ s, i + (s.flatMap gF).length + 1, 0) := by
 refine Qd (p := fun s => ∀ (f i : Nat) (u out : List UInt8), (s.flatMap gF ++ 34 :: u).length ≤ f → oC f (s.flatMap gF ++ 34 :: u) i out = (out ++ s, i + (s.flatMap gF).length + 1, 0)) ?_ ?_ ?_ hv
 ·intro f i u out hf
  cases f with
  | zero => simp at hf
  | succ f => rw [List.flatMap_nil, List.nil_append, oC]; simp
 ·intro c t hc _ ih f i u out hf
  have hq : 1 ≤ (gF c).length := by
   unfold gF eP
   repeat' split
   all_goals simp
  rw [List.flatMap_cons, List.append_assoc] at hf ⊢
  rw [List.length_append] at hf
  cases f with
  | zero => omega
  | succ f =>
   rw [Tt hc, ih f _ u _ (by omega), List.append_assoc, List.length_append]
   simp only [List.cons_append, List.nil_append, Prod.mk.injEq, and_true, true_and]
   omega
 intro l r n hn h1 _ ih f i u out hf
 obtain ⟨k1, _, k3, _, _⟩ := qN hn
 have hh := Qc hn h1
 have e : l.flatMap gF = l.take n ++ (l.drop n).flatMap gF := by
  conv => lhs; rw [← List.take_append_drop n l]
  rw [List.flatMap_append, Qe hh]
 rw [e, List.append_assoc] at hf ⊢
 rw [List.length_append, List.length_take] at hf
 cases f with
 | zero => omega
 | succ f =>
  have ha := Tn hn ((l.drop n).flatMap gF ++ 34 :: u)
  obtain ⟨c, t, ect⟩ : ∃ c t, l.take n ++ ((l.drop n).flatMap gF ++ 34 :: u) = c :: t := by
   cases h0 : l.take n ++ ((l.drop n).flatMap gF ++ 34 :: u) with
   | nil => simp at h0
   | cons c t => exact ⟨c, t, rfl⟩
  have hc : 128 ≤ c.toNat := by
   refine hh c ?_
   cases ht : l.take n with
   | nil => rw [List.take_eq_nil_iff] at ht; rcases ht with rfl | rfl <;> simp at k1 k3; omega
   | cons a b => rw [ht] at ect; injection ect with e1 _; rw [e1]; exact List.mem_cons_self
  have e2 : ∀ k : UInt8, k.toNat < 128 → c ≠ k := fun k hk e => by subst e; omega
  have hd : (c :: t).drop n = (l.drop n).flatMap gF ++ 34 :: u := by rw [← ect, List.drop_append_of_le_length (by rw [List.length_take]; omega), List.drop_take, Nat.sub_self, List.take_zero, List.nil_append]
  have ht : (c :: t).take n = l.take n := by rw [← ect, List.take_append_of_le_length (by rw [List.length_take]; omega), List.take_take, Nat.min_self]
  rw [ect] at ha ⊢
  rw [oC]
  dsimp only
  rw [if_neg (e2 _ (by decide)), if_neg (fun h2 => by have := UInt8.lt_iff_toNat_lt.1 h2; simp at this; omega), if_neg (e2 _ (by decide)), ha]
  dsimp only
  rw [hd, ht, ih f _ u _ (by omega), List.append_assoc, List.take_append_drop, List.length_append, List.length_take]
  simp only [Prod.mk.injEq, and_true, true_and]
  omega
theorem KL {s : List UInt8} (hv : validD s = true) : q9 (FM s) = (s, (FM s).length, 0) := by
 rw [rT]
 unfold q9
 dsimp only
 rw [if_neg (by simp), Tv hv _ _ [] [] (by omega)]
 simp
 omega

/-! Numbers. -/
def jQ (c : UInt8) : Bool := decide (48 ≤ c.toNat ∧ c.toNat ≤ 57)
def dB : List UInt8 → Nat → Option Nat
 | [], acc => some acc
 | c :: r, acc => if jQ c = true then dB r (10 * acc + (c.toNat - 48)) else none
theorem vg : ∀ (l m : List UInt8) (acc : Nat), dB (l ++ m) acc = (dB l acc).bind fun a => dB m a
 | [], _, _ => rfl
 | c :: l, m, acc => by
  simp only [List.cons_append, dB]
  split
  ·exact vg l m _
  rfl
theorem xg {d : Nat} (h : d < 10) : (UInt8.ofNat (48 + d)).toNat = 48 + d := by
 simp
 omega
theorem mX (u : Nat) : dB (decDigits u) 0 = some u := by
 induction u using Nat.strongRecOn with
 | _ u ih =>
  rw [decDigits]
  split
  ·rename_i h
   have e := xg h
   simp only [dB, jQ, e]
   rw [if_pos (by simp; omega)]
   congr 1; omega
  rename_i h
  rw [vg, ih (u / 10) (by omega)]
  have e := xg (show u % 10 < 10 by omega)
  simp only [Option.bind_some, dB, jQ, e]
  rw [if_pos (by simp; omega)]
  congr 1; omega
theorem jy (u : Nat) : decDigits u ≠ [] := by
 rw [decDigits]
 split <;> simp
theorem mJ (u : Nat) : ∀ c ∈ decDigits u, jQ c = true := by
 induction u using Nat.strongRecOn with
 | _ u ih =>
  rw [decDigits]
  split
  ·rename_i h
   intro c hc
   simp only [List.mem_singleton] at hc
   subst hc
   unfold jQ
   rw [xg h]; simp; omega
  rename_i h
  intro c hc
  rcases List.mem_append.1 hc with hc | hc
  ·exact ih (u / 10) (by omega) c hc
  simp only [List.mem_singleton] at hc
  subst hc
  unfold jQ
  rw [xg (show u % 10 < 10 by omega)]; simp; omega
theorem mK : ∀ (k u : Nat), u < 10 ^ (k + 1) → (decDigits u).length ≤ k + 1
 | 0, u, h => by rw [decDigits, dif_pos (by simpa using h)]; simp
 | k + 1, u, h => by
  rw [decDigits]
  split
  ·simp
  have := mK k (u / 10) (by rw [Nat.pow_succ] at h; omega)
  rw [List.length_append, List.length_singleton]; omega
theorem yH : ∀ (l : List UInt8) (acc n : Nat), dB l acc = some n → acc ≤ n
 | [], acc, n, h => by simp [dB] at h; omega
 | c :: r, acc, n, h => by
  simp only [dB] at h
  split at h
  ·have := yH r _ n h; omega
  cases h
theorem tC : ∀ (l : List UInt8) (acc n : Nat), dB l acc = some n → n < 18446744073709551616 → parseUint10 acc l = .ok n
 | [], acc, n, h, _ => by simp [dB] at h; simp [parseUint10, h]
 | c :: r, acc, n, h, hn => by
  simp only [dB] at h
  split at h
  ·rename_i hc
   have rG := yH r _ n h
   have hc' : 48 ≤ c.toNat ∧ c.toNat ≤ 57 := by simpa [jQ] using hc
   rw [parseUint10, if_pos hc', if_neg (by omega), if_neg (by omega)]
   rw [Nat.mul_comm] at h
   exact tC r _ n h hn
  cases h
def jZ (w : List UInt8) : Int := match parseIntB 64 w with
 | .ok v => v
 | .range => intSat 64 w
 | _ => 0
theorem yI {u : Nat} : ∃ c r, decDigits u = c :: r ∧ jQ c = true := by
 cases h : decDigits u with
 | nil => exact absurd h (jy u)
 | cons c r => exact ⟨c, r, rfl, mJ u c (by rw [h]; exact List.mem_cons_self)⟩
theorem FP {u : Nat} (h : u < 18446744073709551616) : parseUintB 64 (decDigits u) = .ok u := by
 rw [parseUintB_64, parseMag, if_neg (jy u), tC _ 0 u (mX u) h]
theorem Bl {n : Int} (h0 : -9223372036854775808 ≤ n) (h1 : n ≤ 9223372036854775807) : jZ (itoa n) = n := by
 by_cases hn : n < 0
 ·have e : itoa n = 45 :: decDigits n.natAbs := if_pos hn
  unfold jZ
  rw [e, parseIntB_minus, FP (by omega)]
  simp only [signedC]
  rw [if_neg (by simp; omega)]
  simp only
  omega
 have e0 : itoa n = decDigits n.toNat := if_neg hn
 obtain ⟨c, r, e, hc⟩ := yI (u := n.toNat)
 have hc' : 48 ≤ c.toNat ∧ c.toNat ≤ 57 := by simpa [jQ] using hc
 have hp := FP (u := n.toNat) (by omega)
 unfold jZ
 rw [e0]
 rw [e] at hp ⊢
 rw [parseIntB_plain _ _ _ (by omega) (by omega), hp]
 simp only [signlessC]
 rw [if_neg (by simp; omega)]
 simp only
 omega
def lG (s : List UInt8) : Int × Bool :=
 if s.head? = some 45 then (if (s.drop 1).length < 1 ∨ 19 < (s.drop 1).length then (0, false) else match dB (s.drop 1) 0 with
  | none => (0, false)
  | some n => if n ≤ 9223372036854775808 then (-(n : Int), true) else (IntKind.i64.wrap n, false))
 else if s.length < 1 ∨ 19 < s.length then (0, false) else match dB s 0 with
  | none => (0, false)
  | some n => (IntKind.i64.wrap n, decide (n < 9223372036854775808))
theorem Bn {n : Int} (h0 : -9223372036854775808 ≤ n) (h1 : n ≤ 9223372036854775807) : lG (itoa n) = (n, true) := by
 unfold lG itoa
 have hlen : (decDigits n.natAbs).length ≤ 19 := mK 18 _ (by simp; omega)
 have zS : 1 ≤ (decDigits n.natAbs).length := by
  cases h : decDigits n.natAbs with
  | nil => exact absurd h (jy _)
  | cons c r => simp
 split
 ·rename_i hn
  rw [if_pos (by simp)]
  simp only [List.drop_succ_cons, List.drop_zero]
  rw [if_neg (by omega), mX]
  simp only
  rw [if_pos (by omega)]
  congr 1; omega
 rename_i hn
 have e0 : n.natAbs = n.toNat := by omega
 rw [e0] at hlen zS
 obtain ⟨c, r, e, hc⟩ := yI (u := n.toNat)
 have hc' : 48 ≤ c.toNat ∧ c.toNat ≤ 57 := by simpa [jQ] using hc
 rw [if_neg (by rw [e]; simp; intro h; subst h; simp at hc'), if_neg (by omega), mX]
 simp only [Prod.mk.injEq]
 refine ⟨?_, by simp; omega⟩
 rw [IntKind.wrap_i64]
 omega
/-! Bytes. -/
def gY (c : UInt8) : Option Nat := if 48 ≤ c.toNat ∧ c.toNat ≤ 57 then some (c.toNat - 48) else if 97 ≤ c.toNat ∧ c.toNat ≤ 102 then some (c.toNat - 87) else none
def oN : List UInt8 → List UInt8
 | a :: b :: t => ((gY a).getD 0 * 16 + (gY b).getD 0).toUInt8 :: oN t
 | _ => []
def gZ : List UInt8 → Option (List UInt8)
 | a :: b :: t => match gY a, gY b, gZ t with
  | some x, some y, some l => some ((x * 16 + y).toUInt8 :: l)
  | _, _, _ => none
 | [] => some []
 | _ => none
theorem zu {d : Nat} (h : d < 16) : gY (jH d) = some d := by
 have : ∀ d : Fin 16, gY (jH d.val) = some d.val := by decide
 exact this ⟨d, h⟩
theorem FQ (c : UInt8) : (c.toNat / 16 * 16 + c.toNat % 16).toUInt8 = c := by
 rw [OL]
 have := c.toNat_lt
 omega
theorem FR : ∀ s : List UInt8, oN (pG s) = s
 | [] => rfl
 | c :: s => by
  have := c.toNat_lt
  show oN (jH (c.toNat / 16) :: jH (c.toNat % 16) :: pG s) = _
  rw [oN, zu (by omega), zu (by omega), FR s]
  simp only [Option.getD_some, FQ]
theorem FT : ∀ s : List UInt8, gZ (pG s) = some s
 | [] => rfl
 | c :: s => by
  have := c.toNat_lt
  show gZ (jH (c.toNat / 16) :: jH (c.toNat % 16) :: pG s) = _
  rw [gZ, zu (by omega), zu (by omega), FT s]
  simp only [FQ]
/-! Words. -/
def mM : List UInt8 := [116, 114, 117, 101]
def vk : List UInt8 := [102, 97, 108, 115, 101]
def zw (w : List UInt8) : List UInt8 := let s := oN (w.drop 1); if 120 :: pG s = w ∧ s.length ≤ 1024 then s else []
def dM (w : List UInt8) : bL :=
 match eG.findIdx? (fun x => decide (x = w)) with
 | some i => ⟨7 + i, 0, []⟩
 | none => match [1, 3, 4, 5].find? (fun k : Int => decide (lQ k = w)) with
  | some k => ⟨6, k, []⟩
  | none => if w = mM then ⟨3, 1, []⟩ else if w = vk then ⟨3, 0, []⟩
   else if w.head? = some 35 then ⟨1, jZ (w.drop 1), []⟩
   else if w.head? = some 34 then ⟨4, 0, (q9 w).1⟩
   else if w.head? = some 120 then ⟨5, 0, zw w⟩
   else ⟨2, jZ w, []⟩
def gM (k : Int) : List UInt8 := [110, 117, 108, 108, 58] ++ (if k = 1 then [98, 111, 111, 108] else if k = 2 then [105, 110, 116, 51, 50] else if k = 3 then [105, 110, 116, 54, 52] else if k = 4 then [115, 116, 114, 105, 110, 103] else if k = 5 then [98, 121, 116, 101, 115] else [])
def stepW (w : List UInt8) : bL :=
 if (lG w).2 = true then ⟨2, (lG w).1, []⟩
 else if 1 < w.length ∧ w.head? = some 35 then ⟨1, (lG (w.drop 1)).1, []⟩
 else if w.head? = some 34 then ⟨4, 0, (q9 w).1⟩
 else if w.head? = some 120 then ⟨5, 0, (gZ (w.drop 1)).getD []⟩
 else match eG.findIdx? (fun x => decide (x = w)) with
  | some i => ⟨7 + i, 0, []⟩
  | none => match [1, 2, 3, 4, 5].find? (fun k : Int => decide (gM k = w)) with
   | some k => ⟨6, k, []⟩
   | none => if w = mM then ⟨3, 1, []⟩ else ⟨3, 0, []⟩
theorem Nc : ∀ x ∈ eG, ∃ c r, x = c :: r ∧ c ≠ 35 ∧ c ≠ 34 ∧ c ≠ 120 ∧ ¬ (48 ≤ c.toNat ∧ c.toNat ≤ 57) ∧ (c = 45 → r = []) := by
 intro x hx
 simp only [eG, List.mem_cons, List.not_mem_nil, or_false] at hx
 rcases hx with rfl | rfl | rfl | rfl | rfl | rfl | rfl | rfl | rfl | rfl | rfl | rfl <;> exact ⟨_, _, rfl, by decide, by decide, by decide, by decide, by decide⟩
theorem VJ {c : UInt8} {r : List UInt8} (h : c = 35 ∨ c = 34 ∨ c = 120 ∨ (48 ≤ c.toNat ∧ c.toNat ≤ 57) ∨ (c = 45 ∧ r ≠ [])) : eG.findIdx? (fun x => decide (x = c :: r)) = none := by
 rw [List.findIdx?_eq_none_iff]
 intro x hx
 obtain ⟨c', r', rfl, h1, h2, h3, h4, h5⟩ := Nc x hx
 simp only [List.cons.injEq, decide_eq_false_iff_not, not_and]
 rintro rfl rfl
 rcases h with h | h | h | h | ⟨h, h6⟩
 ·exact h1 h
 ·exact h2 h
 ·exact h3 h
 ·exact h4 h
 exact h6 (h5 h)
theorem VK {c : UInt8} {r : List UInt8} (h : c ≠ 110) : [1, 3, 4, 5].find? (fun k : Int => decide (lQ k = c :: r)) = none := by
 rw [List.find?_eq_none]
 intro k hk
 simp only [List.mem_cons, List.not_mem_nil, or_false] at hk
 simp only [decide_eq_true_eq]
 rcases hk with rfl | rfl | rfl | rfl <;> (intro e; injection e with e _; exact h e.symm)
theorem tF {c : UInt8} {r : List UInt8} (h1 : jQ c = false) (h2 : c ≠ 45) : lG (c :: r) = (0, false) := by
 unfold lG
 rw [if_neg (by simpa using h2)]
 split
 ·rfl
 simp [dB, h1]
theorem Ak (n : Int) : ∃ c r, itoa n = c :: r ∧ ((48 ≤ c.toNat ∧ c.toNat ≤ 57) ∨ (c = 45 ∧ r ≠ [])) := by
 unfold itoa
 split
 ·exact ⟨_, _, rfl, .inr ⟨rfl, jy _⟩⟩
 obtain ⟨c, r, e, hc⟩ := yI (u := n.toNat)
 exact ⟨c, r, e, .inl (by simpa [jQ] using hc)⟩
theorem tH {c : UInt8} {r : List UInt8} (h : c = 35 ∨ c = 34 ∨ c = 120 ∨ (48 ≤ c.toNat ∧ c.toNat ≤ 57) ∨ (c = 45 ∧ r ≠ [])) :
    dM (c :: r) = if c = 35 then ⟨1, jZ r, []⟩ else if c = 34 then ⟨4, 0, (q9 (c :: r)).1⟩ else if c = 120 then ⟨5, 0, zw (c :: r)⟩ else ⟨2, jZ (c :: r), []⟩ := by
  have hc : c ≠ 110 ∧ c ≠ 116 ∧ c ≠ 102 := by
    rcases h with rfl | rfl | rfl | h | ⟨rfl, _⟩
    · decide
    · decide
    · decide
    · refine ⟨?_, ?_, ?_⟩ <;> (rintro rfl; exact absurd h (by decide))
    decide
  unfold dM
  rw [VJ h]
  dsimp only
  rw [VK hc.1]
  dsimp only
  rw [if_neg (by unfold mM; intro e; injection e with e _; exact hc.2.1 e), if_neg (by unfold vk; intro e; injection e with e _; exact hc.2.2 e)]
  simp only [List.head?_cons, Option.some.injEq, List.drop_succ_cons, List.drop_zero]
theorem Dk {x : bL} (h : dI x = true) (h0 : -9223372036854775808 ≤ x.n) (h1 : x.n ≤ 9223372036854775807) : dM (dO x) = x := by
 obtain ⟨k, n, s⟩ := x
 unfold dI at h
 unfold dO
 dsimp only at h h0 h1 ⊢
 by_cases k1 : k = 1
 ·subst k1
  rw [if_pos rfl] at h ⊢
  simp only [decide_eq_true_eq] at h
  rw [tH (.inl rfl), if_pos rfl, Bl h0 h1, h.1]
 rw [if_neg k1] at h ⊢
 by_cases k2 : k = 2
 ·subst k2
  rw [if_pos rfl] at h ⊢
  simp only [decide_eq_true_eq] at h
  obtain ⟨c, r, e, hc⟩ := Ak n
  have hp := Bl h0 h1
  rw [e] at hp ⊢
  rw [tH (.inr (.inr (.inr hc))), if_neg, if_neg, if_neg, hp, h]
  all_goals (rcases hc with hc | ⟨rfl, _⟩ <;> first | decide | (rintro rfl; exact absurd hc (by decide)))
 rw [if_neg k2] at h ⊢
 by_cases k3 : k = 3
 ·subst k3
  rw [if_pos rfl] at h ⊢
  simp only [decide_eq_true_eq] at h
  obtain ⟨rfl, ha, hb⟩ := h
  have : n = 0 ∨ n = 1 := by omega
  rcases this with rfl | rfl <;> rfl
 rw [if_neg k3] at h ⊢
 by_cases k4 : k = 4
 ·subst k4
  rw [if_pos rfl] at h ⊢
  simp only [decide_eq_true_eq] at h
  have hu := KL h.2.2
  have e := rT s
  rw [e] at hu ⊢
  rw [tH (.inr (.inl rfl)), if_neg (by decide), if_pos rfl, hu, h.1]
 rw [if_neg k4] at h ⊢
 by_cases k5 : k = 5
 ·subst k5
  rw [if_pos rfl] at h ⊢
  simp only [decide_eq_true_eq] at h
  rw [tH (.inr (.inr (.inl rfl))), if_neg (by decide), if_neg (by decide), if_pos rfl]
  unfold zw
  simp only [List.drop_succ_cons, List.drop_zero, FR, true_and]
  rw [if_pos h.2, h.1]
 rw [if_neg k5] at h ⊢
 by_cases k6 : k = 6
 ·subst k6
  rw [if_pos rfl] at h ⊢
  simp only [decide_eq_true_eq] at h
  obtain ⟨rfl, hn⟩ := h
  have : n = 1 ∨ n = 3 ∨ n = 4 ∨ n = 5 := by omega
  rcases this with rfl | rfl | rfl | rfl <;> rfl
 rw [if_neg k6] at h ⊢
 simp only [decide_eq_true_eq] at h
 obtain ⟨ha, hb, rfl, rfl⟩ := h
 have : k = 7 ∨ k = 8 ∨ k = 9 ∨ k = 10 ∨ k = 11 ∨ k = 12 ∨ k = 13 ∨ k = 14 ∨ k = 15 ∨ k = 16 ∨ k = 17 ∨ k = 18 := by omega
 rcases this with rfl | rfl | rfl | rfl | rfl | rfl | rfl | rfl | rfl | rfl | rfl | rfl <;> rfl
theorem Qf {x : bL} (h : dI x = true) (h0 : -9223372036854775808 ≤ x.n) (h1 : x.n ≤ 9223372036854775807) : stepW (dO x) = x := by
 obtain ⟨k, n, s⟩ := x
 unfold dI at h
 unfold dO
 dsimp only at h h0 h1 ⊢
 by_cases k1 : k = 1
 ·subst k1
  rw [if_pos rfl] at h ⊢
  simp only [decide_eq_true_eq] at h
  unfold stepW
  rw [tF (by decide) (by decide)]
  obtain ⟨c, r, e, _⟩ := Ak n
  rw [if_neg (by decide), if_pos ⟨by rw [e]; simp, rfl⟩]
  simp only [List.drop_succ_cons, List.drop_zero, Bn h0 h1, h.1]
 rw [if_neg k1] at h ⊢
 by_cases k2 : k = 2
 ·subst k2
  rw [if_pos rfl] at h ⊢
  simp only [decide_eq_true_eq] at h
  unfold stepW
  rw [Bn h0 h1, if_pos rfl, h]
 rw [if_neg k2] at h ⊢
 by_cases k3 : k = 3
 ·subst k3
  rw [if_pos rfl] at h ⊢
  simp only [decide_eq_true_eq] at h
  obtain ⟨rfl, ha, hb⟩ := h
  have : n = 0 ∨ n = 1 := by omega
  rcases this with rfl | rfl <;> rfl
 rw [if_neg k3] at h ⊢
 by_cases k4 : k = 4
 ·subst k4
  rw [if_pos rfl] at h ⊢
  simp only [decide_eq_true_eq] at h
  have hu := KL h.2.2
  have e := rT s
  rw [e] at hu ⊢
  unfold stepW
  rw [tF (by decide) (by decide), if_neg (by decide), if_neg (by simp), if_pos (by simp), hu, h.1]
 rw [if_neg k4] at h ⊢
 by_cases k5 : k = 5
 ·subst k5
  rw [if_pos rfl] at h ⊢
  simp only [decide_eq_true_eq] at h
  unfold stepW
  rw [tF (by decide) (by decide), if_neg (by decide), if_neg (by simp), if_neg (by simp), if_pos (by simp)]
  simp only [List.drop_succ_cons, List.drop_zero, FT, Option.getD_some, h.1]
 rw [if_neg k5] at h ⊢
 by_cases k6 : k = 6
 ·subst k6
  rw [if_pos rfl] at h ⊢
  simp only [decide_eq_true_eq] at h
  obtain ⟨rfl, hn⟩ := h
  have : n = 1 ∨ n = 3 ∨ n = 4 ∨ n = 5 := by omega
  rcases this with rfl | rfl | rfl | rfl <;> rfl
 rw [if_neg k6] at h ⊢
 simp only [decide_eq_true_eq] at h
 obtain ⟨ha, hb, rfl, rfl⟩ := h
 have : k = 7 ∨ k = 8 ∨ k = 9 ∨ k = 10 ∨ k = 11 ∨ k = 12 ∨ k = 13 ∨ k = 14 ∨ k = 15 ∨ k = 16 ∨ k = 17 ∨ k = 18 := by omega
 rcases this with rfl | rfl | rfl | rfl | rfl | rfl | rfl | rfl | rfl | rfl | rfl | rfl <;> rfl
/-! Expressions as texts. -/
def bT (sep : UInt8) : List UInt8 → List (List UInt8)
 | [] => [[]]
 | c :: l => if c = sep then [] :: bT sep l else match bT sep l with
  | w :: ws => (c :: w) :: ws
  | [] => [[c]]
def jR (x : bL) (w : List UInt8) : Bool := dI x && decide (dO x = w)
def readAll : List (List UInt8) → Option (List bL)
 | [] => some []
 | w :: l => if jR (dM w) w = true then (readAll l).map (dM w :: ·) else none
def bN (s : List UInt8) : List bL × Int :=
 if 1048576 < s.length ∨ 64 ≤ s.count 32 then ([], 5) else if s = [] then ([], 0) else match readAll (bT 32 s) with
  | some l => (l, 0)
  | none => ([], 4)

theorem Bo (w : List UInt8) : -9223372036854775808 ≤ jZ w ∧ jZ w ≤ 9223372036854775807 := by
 unfold jZ
 split
 ·rename_i v h
  obtain ⟨h1, h2⟩ := parseIntB_bounds h
  simp at h1 h2
  omega
 ·unfold intSat
  split <;> simp
 omega
theorem Bp (w : List UInt8) : -9223372036854775808 ≤ (lG w).1 ∧ (lG w).1 ≤ 9223372036854775807 := by
 have hw : ∀ n : Nat, -9223372036854775808 ≤ IntKind.i64.wrap (n : Int) ∧ IntKind.i64.wrap (n : Int) ≤ 9223372036854775807 := fun n => by
  rw [IntKind.wrap_i64]; omega
 unfold lG
 repeat' split
 all_goals first | exact hw _ | (dsimp only; omega)
theorem Dl {w : List UInt8} (h : dI (dM w) = true) : -9223372036854775808 ≤ (dM w).n ∧ (dM w).n ≤ 9223372036854775807 := by
 unfold dM at h ⊢
 split
 ·dsimp only; omega
 split
 ·rename_i k hk
  have := List.mem_of_find?_eq_some hk
  simp at this
  dsimp only
  omega
 repeat' split
 all_goals first | exact Bo _ | (dsimp only; omega)
theorem xk {w : List UInt8} : -9223372036854775808 ≤ (stepW w).n ∧ (stepW w).n ≤ 9223372036854775807 := by
 unfold stepW
 split
 ·exact Bp _
 split
 ·exact Bp _
 split
 ·dsimp only; omega
 split
 ·dsimp only; omega
 split
 ·dsimp only; omega
 split
 ·rename_i k hk
  have := List.mem_of_find?_eq_some hk
  simp at this
  dsimp only
  omega
 split <;> (dsimp only; omega)
theorem jS {x : bL} {w : List UInt8} : jR x w = true ↔ dI x = true ∧ dO x = w := by
 unfold jR
 rw [Bool.and_eq_true, decide_eq_true_eq]
theorem good_step {w : List UInt8} (h : jR (dM w) w = true) : stepW w = dM w := by
 obtain ⟨h1, h2⟩ := jS.1 h
 have hf := Dl h1
 have := Qf h1 hf.1 hf.2
 rwa [h2] at this
theorem Nf {w : List UInt8} (h : jR (stepW w) w = true) : dM w = stepW w := by
 obtain ⟨h1, h2⟩ := jS.1 h
 have := Dk h1 xk.1 xk.2
 rwa [h2] at this
theorem Qg (w : List UInt8) : jR (stepW w) w = jR (dM w) w := by
 cases h : jR (dM w) w with
 | true => rw [good_step h, h]
 | false =>
  cases h2 : jR (stepW w) w with
  | false => rfl
  | true => rw [Nf h2, h2] at h; cases h
/-! Words have no blanks. -/
theorem OM (n : Int) : ∀ c ∈ itoa n, c ≠ 32 := by
 intro c hc e
 subst e
 have key : ∀ u, (32 : UInt8) ∉ decDigits u := fun u h => by
  have := mJ u _ h
  simp [jQ] at this
 unfold itoa at hc
 split at hc
 ·rcases List.mem_cons.1 hc with h | h
  ·exact absurd h (by decide)
  exact key _ h
 exact key _ hc
theorem Qh (c : UInt8) : ∀ x ∈ gF c, x ≠ 32 := by
 have h1 : jH (c.toNat / 16) ≠ 32 := vZ (by have := c.toNat_lt; omega)
 have h2 : jH (c.toNat % 16) ≠ 32 := vZ (by omega)
 unfold gF eP
 repeat' split
 all_goals (intro x hx; simp only [List.mem_cons, List.not_mem_nil, or_false] at hx)
 all_goals first
  | (rcases hx with rfl | rfl | rfl | rfl | rfl | rfl <;> first | decide | assumption)
  | (rcases hx with rfl | rfl <;> decide)
  | (subst hx; assumption)
theorem Ng (c : UInt8) : (gF c).length ≤ 6 := by
 unfold gF eP
 repeat' split
 all_goals simp
theorem rU {f : UInt8 → List UInt8} {k : Nat} (h : ∀ c, (f c).length ≤ k) : ∀ s : List UInt8, (s.flatMap f).length ≤ k * s.length
 | [] => by simp
 | c :: s => by
  have h1 := h c
  have h2 := rU h s
  rw [List.flatMap_cons, List.length_append, List.length_cons, Nat.mul_succ]
  omega
theorem VL {x : bL} (h : dI x = true) : ∀ c ∈ dO x, c ≠ 32 := by
 obtain ⟨k, n, s⟩ := x
 unfold dI at h
 unfold dO
 dsimp only at h ⊢
 by_cases k1 : k = 1
 ·rw [if_pos k1]
  intro c hc
  rcases List.mem_cons.1 hc with rfl | hc
  ·decide
  exact OM n c hc
 rw [if_neg k1] at h ⊢
 by_cases k2 : k = 2
 ·rw [if_pos k2]; exact OM n
 rw [if_neg k2] at h ⊢
 by_cases k3 : k = 3
 ·rw [if_pos k3]
  split <;> decide
 rw [if_neg k3] at h ⊢
 by_cases k4 : k = 4
 ·rw [if_pos k4, rT]
  intro c hc
  rcases List.mem_cons.1 hc with rfl | hc
  ·decide
  rcases List.mem_append.1 hc with hc | hc
  ·obtain ⟨y, _, hy⟩ := List.mem_flatMap.1 hc
   exact Qh y c hy
  simp only [List.mem_singleton] at hc; subst hc; decide
 rw [if_neg k4] at h ⊢
 by_cases k5 : k = 5
 ·rw [if_pos k5]
  intro c hc
  rcases List.mem_cons.1 hc with rfl | hc
  ·decide
  obtain ⟨y, _, hy⟩ := List.mem_flatMap.1 hc
  simp only [List.mem_cons, List.not_mem_nil, or_false] at hy
  rcases hy with rfl | rfl
  ·exact vZ (by have := y.toNat_lt; omega)
  exact vZ (by omega)
 rw [if_neg k5] at h ⊢
 by_cases k6 : k = 6
 ·subst k6
  rw [if_pos rfl] at h ⊢
  simp only [decide_eq_true_eq] at h
  obtain ⟨_, hn⟩ := h
  have : n = 1 ∨ n = 3 ∨ n = 4 ∨ n = 5 := by omega
  rcases this with rfl | rfl | rfl | rfl <;> decide
 rw [if_neg k6] at h ⊢
 simp only [decide_eq_true_eq] at h
 obtain ⟨ha, hb, _, _⟩ := h
 have : k = 7 ∨ k = 8 ∨ k = 9 ∨ k = 10 ∨ k = 11 ∨ k = 12 ∨ k = 13 ∨ k = 14 ∨ k = 15 ∨ k = 16 ∨ k = 17 ∨ k = 18 := by omega
 rcases this with rfl | rfl | rfl | rfl | rfl | rfl | rfl | rfl | rfl | rfl | rfl | rfl <;> decide
theorem Dm {n : Int} (h0 : -9223372036854775808 ≤ n) (h1 : n ≤ 9223372036854775807) : (itoa n).length ≤ 20 := by
 unfold itoa
 split
 ·have := mK 18 n.natAbs (by simp; omega)
  simp; omega
 have := mK 18 n.toNat (by simp; omega)
 omega
theorem Dn {x : bL} (h : dI x = true) (h0 : -9223372036854775808 ≤ x.n) (h1 : x.n ≤ 9223372036854775807) : (dO x).length ≤ 6146 ∧ dO x ≠ [] := by
 obtain ⟨k, n, s⟩ := x
 unfold dI at h
 unfold dO
 dsimp only at h h0 h1 ⊢
 have hi := Dm h0 h1
 obtain ⟨c, r, ei, _⟩ := Ak n
 by_cases k1 : k = 1
 ·rw [if_pos k1]; exact ⟨by simp; omega, by simp⟩
 rw [if_neg k1] at h ⊢
 by_cases k2 : k = 2
 ·rw [if_pos k2]; exact ⟨by omega, by rw [ei]; simp⟩
 rw [if_neg k2] at h ⊢
 by_cases k3 : k = 3
 ·rw [if_pos k3]
  split <;> exact ⟨by decide, by decide⟩
 rw [if_neg k3] at h ⊢
 by_cases k4 : k = 4
 ·rw [if_pos k4] at h ⊢
  simp only [decide_eq_true_eq] at h
  rw [rT]
  have := rU Ng s
  exact ⟨by simp only [List.length_cons, List.length_append, List.length_nil]; omega, by simp⟩
 rw [if_neg k4] at h ⊢
 by_cases k5 : k = 5
 ·rw [if_pos k5] at h ⊢
  simp only [decide_eq_true_eq] at h
  have : (pG s).length ≤ 2 * s.length := rU (f := fun c : UInt8 => [jH (c.toNat / 16), jH (c.toNat % 16)]) (fun c => by simp) s
  exact ⟨by simp only [List.length_cons]; omega, by simp⟩
 rw [if_neg k5] at h ⊢
 by_cases k6 : k = 6
 ·subst k6
  rw [if_pos rfl] at h ⊢
  simp only [decide_eq_true_eq] at h
  obtain ⟨_, hn⟩ := h
  have : n = 1 ∨ n = 3 ∨ n = 4 ∨ n = 5 := by omega
  rcases this with rfl | rfl | rfl | rfl <;> exact ⟨by decide, by decide⟩
 rw [if_neg k6] at h ⊢
 simp only [decide_eq_true_eq] at h
 obtain ⟨ha, hb, _, _⟩ := h
 have : k = 7 ∨ k = 8 ∨ k = 9 ∨ k = 10 ∨ k = 11 ∨ k = 12 ∨ k = 13 ∨ k = 14 ∨ k = 15 ∨ k = 16 ∨ k = 17 ∨ k = 18 := by omega
 rcases this with rfl | rfl | rfl | rfl | rfl | rfl | rfl | rfl | rfl | rfl | rfl | rfl <;> exact ⟨by decide, by decide⟩
/-! Split and join. -/
theorem KM (sep : UInt8) : ∀ l : List UInt8, bT sep l ≠ []
 | [] => by simp [bT]
 | c :: l => by
  unfold bT
  split
  ·simp
  split <;> simp
theorem mU {sep c : UInt8} {l : List UInt8} (h : c ≠ sep) : ∃ w ws, bT sep l = w :: ws ∧ bT sep (c :: l) = (c :: w) :: ws := by
 cases e : bT sep l with
 | nil => exact absurd e (KM sep l)
 | cons w ws => exact ⟨w, ws, rfl, by rw [bT, if_neg h, e]⟩
theorem qp {sep : UInt8} {w : List UInt8} (h : ∀ c ∈ w, c ≠ sep) : bT sep w = [w] := by
 induction w with
 | nil => rfl
 | cons c w ih =>
  obtain ⟨a, b, e1, e2⟩ := mU (l := w) (h c List.mem_cons_self)
  rw [ih fun x hx => h x (List.mem_cons_of_mem _ hx)] at e1
  injection e1 with e1 e3
  rw [e2, ← e1, ← e3]
theorem rV {sep : UInt8} {w l : List UInt8} (h : ∀ c ∈ w, c ≠ sep) : bT sep (w ++ sep :: l) = w :: bT sep l := by
 induction w with
 | nil => rw [List.nil_append, bT, if_pos rfl]
 | cons c w ih =>
  obtain ⟨a, b, e1, e2⟩ := mU (l := w ++ sep :: l) (h c List.mem_cons_self)
  rw [ih fun x hx => h x (List.mem_cons_of_mem _ hx)] at e1
  injection e1 with e1 e3
  rw [List.cons_append, e2, ← e1, ← e3]
theorem yJ {sep : UInt8} : ∀ {ws : List (List UInt8)}, ws ≠ [] → (∀ w ∈ ws, ∀ c ∈ w, c ≠ sep) → bT sep (fA sep ws) = ws
 | [], h, _ => absurd rfl h
 | [w], _, h => qp (h w List.mem_cons_self)
 | w :: w' :: ws, _, h => by
  show bT sep (w ++ sep :: fA sep (w' :: ws)) = _
  rw [rV (h w List.mem_cons_self), yJ (by simp) fun x hx => h x (List.mem_cons_of_mem _ hx)]
theorem yK (sep : UInt8) : ∀ l : List UInt8, fA sep (bT sep l) = l
 | [] => rfl
 | c :: l => by
  have ih := yK sep l
  by_cases h : c = sep
  ·rw [bT, if_pos h]
   obtain ⟨w, ws, e⟩ : ∃ w ws, bT sep l = w :: ws := by
    cases e : bT sep l with
    | nil => exact absurd e (KM sep l)
    | cons w ws => exact ⟨w, ws, rfl⟩
   rw [e] at ih ⊢
   show [] ++ sep :: fA sep (w :: ws) = _
   rw [ih, h]; rfl
  obtain ⟨w, ws, e1, e2⟩ := mU (l := l) h
  rw [e2]
  rw [e1] at ih
  cases ws with
  | nil => show c :: w = _; rw [← ih]; rfl
  | cons w' ws => show (c :: w) ++ sep :: fA sep (w' :: ws) = _; rw [← ih]; rfl
theorem qO (sep : UInt8) : ∀ l : List UInt8, (bT sep l).length = l.count sep + 1
 | [] => rfl
 | c :: l => by
  have ih := qO sep l
  by_cases h : c = sep
  ·rw [bT, if_pos h, List.length_cons, ih, h, List.count_cons_self]
  obtain ⟨w, ws, e1, e2⟩ := mU (l := l) h
  rw [e1] at ih
  rw [e2, List.count_cons_of_ne h]
  simpa using ih
theorem rW (sep : UInt8) {k : Nat} : ∀ {ws : List (List UInt8)}, (∀ w ∈ ws, w.length ≤ k) → (fA sep ws).length ≤ (k + 1) * ws.length
 | [], _ => by simp [fA]
 | [w], h => by have := h w List.mem_cons_self; simp [fA]; omega
 | w :: w' :: ws, h => by
  have h1 := h w List.mem_cons_self
  have h2 := rW sep (ws := w' :: ws) fun x hx => h x (List.mem_cons_of_mem _ hx)
  show (w ++ sep :: fA sep (w' :: ws)).length ≤ _
  simp only [List.length_append, List.length_cons] at h2 ⊢
  rw [Nat.mul_succ]
  omega
theorem xX : ∀ {l : List bL}, (∀ x ∈ l, dI x = true ∧ -9223372036854775808 ≤ x.n ∧ x.n ≤ 9223372036854775807) → readAll (l.map dO) = some l
 | [], _ => rfl
 | x :: l, h => by
  obtain ⟨h1, h2, h3⟩ := h x List.mem_cons_self
  have e := Dk h1 h2 h3
  rw [List.map_cons, readAll, e, if_pos (jS.2 ⟨h1, rfl⟩), xX fun y hy => h y (List.mem_cons_of_mem _ hy)]
  rfl
theorem zx : ∀ {ws : List (List UInt8)} {l : List bL}, readAll ws = some l → l.map dO = ws ∧ ∀ x ∈ l, dI x = true ∧ -9223372036854775808 ≤ x.n ∧ x.n ≤ 9223372036854775807
 | [], l, h => by simp [readAll] at h; subst h; exact ⟨rfl, fun _ h => by cases h⟩
 | w :: ws, l, h => by
  rw [readAll] at h
  split at h
  ·rename_i hg
   obtain ⟨m, hm, rfl⟩ := Option.map_eq_some_iff.1 h
   obtain ⟨h1, h2⟩ := jS.1 hg
   obtain ⟨h3, h4⟩ := zx hm
   refine ⟨by rw [List.map_cons, h2, h3], fun x hx => ?_⟩
   rcases List.mem_cons.1 hx with rfl | hx
   ·exact ⟨h1, Dl h1⟩
   exact h4 x hx
  cases h
theorem Dp {l : List bL} (h : ∀ x ∈ l, dI x = true ∧ -9223372036854775808 ≤ x.n ∧ x.n ≤ 9223372036854775807) (hl : l.length ≤ 64) : eY l = (fA 32 (l.map dO), 0) ∧ bN (fA 32 (l.map dO)) = (l, 0) ∧ (l ≠ [] → (fA 32 (l.map dO)).count 32 = l.length - 1) := by
 refine ⟨?_, ?_⟩
 ·unfold eY
  rw [if_neg (by omega), if_neg]
  rw [Bool.not_eq_false, List.all_eq_true]
  exact fun x hx => (h x hx).1
 by_cases h0 : l = []
 ·subst h0; exact ⟨rfl, fun h => absurd rfl h⟩
 have fM : l.map dO ≠ [] := by simpa using h0
 have Cb : ∀ w ∈ l.map dO, ∀ c ∈ w, c ≠ 32 := fun w hw => by
  obtain ⟨x, hx, rfl⟩ := List.mem_map.1 hw
  exact VL (h x hx).1
 have hs := yJ fM Cb
 have hc := qO 32 (fA 32 (l.map dO))
 rw [hs, List.length_map] at hc
 have hlen : (fA 32 (l.map dO)).length ≤ (6146 + 1) * (l.map dO).length := rW 32 fun w hw => by
  obtain ⟨x, hx, rfl⟩ := List.mem_map.1 hw
  exact (Dn (h x hx).1 (h x hx).2.1 (h x hx).2.2).1
 rw [List.length_map] at hlen
 have Gy : fA 32 (l.map dO) ≠ [] := by
  intro e
  rw [e] at hs
  have : l.map dO = [[]] := hs.symm
  cases l with
  | nil => exact h0 rfl
  | cons x l =>
   simp only [List.map_cons, List.cons.injEq] at this
   exact (Dn (h x List.mem_cons_self).1 (h x List.mem_cons_self).2.1 (h x List.mem_cons_self).2.2).2 this.1
 refine ⟨?_, fun _ => by omega⟩
 unfold bN
 rw [if_neg (by omega), if_neg Gy, hs, xX h]
theorem Nh {s : List UInt8} {l : List bL} (h : bN s = (l, 0)) : eY l = (s, 0) := by
 unfold bN at h
 split at h
 ·injection h with _ h; cases h
 rename_i hb
 split at h
 ·rename_i h0
  injection h with h _
  subst h; subst h0; rfl
 split at h
 ·rename_i m hm
  injection h with h _
  subst h
  obtain ⟨h1, h2⟩ := zx hm
  have hc := qO 32 s
  rw [← h1, List.length_map] at hc
  have := (Dp h2 (by omega)).1
  rw [this, h1, yK]
 injection h with _ h; cases h
end Go.Proofs.YtolaedhdjcnijaaGreatDoor
namespace Go.Mw
section
variable {P : Program} {r : Option Nat} {n : Nat} {ops : Array Oper} {Q : Post} {rest : List Oper} {σ : St} {w w₀ : World} {S : Nat → Prop} {rs : List HP} {put : HP → List HP} {ty : TypeId} {pos : String} {after : Array Edge} {op : Op}
theorem Qn {y : Code} (h : FW P r n y Q σ w) : FL P r n ops (Cv P r n y Q) [] σ w := aP (aj h)
theorem Sr {id : Nat} {l : List Oper} {y : Code} (h : FL P r n l.toArray (Cv P r n y Q) l σ w) : FW P r n (.seq (.region id l.toArray false) y) Q σ w := au (aB h)
theorem Nx {id : Nat} {l : List Oper} {y : Code} (h : FL P r n l.toArray (Cv P r n y Q) l σ w) : FL P r n ops (Cv P r n (.seq (.region id l.toArray false) y) Q) [] σ w := aP (aj (au (aB h)))
theorem Sk {y : Code} (h : FW P r n y Q σ w) : FW P r n .skip (Cv P r n y Q) σ w := aY (aj h)
theorem Mv {d : Nat} {x : Operand} {v : Value} (h : FL P r n ops Q rest (upd σ d v) w) (hv : evF σ x = v := by simp only [evF, upd_same, upd_ne, ne_eq, Nat.reduceEqDiff, not_false_eq_true]; rfl) (hd : Nat.blt d n = true := by exact rfl) :
    FL P r n ops Q ({ dst := some d, op := .move x, type := ty, pos := pos, after := after, guard := none } :: rest) σ w := U0 hv hd h
theorem Am {d : Nat} {x : Operand} {v : Value} (h : FL P r n ops Q rest (upd σ d v) w) (hv : evF σ x = v := by simp only [evF, upd_same, upd_ne, ne_eq, Nat.reduceEqDiff, not_false_eq_true]; rfl) (hd : Nat.blt d n = true := by exact rfl) :
    FL P r n ops Q ({ dst := some d, op := .assign x, type := ty, pos := pos, after := after, guard := none } :: rest) σ w := Pk hv hd h
theorem Pt {d : Nat} {x y z : Operand} {v : Value} (h : FL P r n ops Q rest (upd σ d v) w) (hc : evF σ z = .bool true := by exact rfl) (hv : evF σ x = v := by simp only [evF, upd_same, upd_ne, ne_eq, Nat.reduceEqDiff, not_false_eq_true]; rfl) (hd : Nat.blt d n = true := by exact rfl) :
    FL P r n ops Q ({ dst := some d, op := .pick z x y, type := ty, pos := pos, after := after, guard := none } :: rest) σ w := Rv hc hv hd h
theorem Pf {d : Nat} {x y z : Operand} {v : Value} (h : FL P r n ops Q rest (upd σ d v) w) (hc : evF σ z = .bool false := by exact rfl) (hv : evF σ y = v := by simp only [evF, upd_same, upd_ne, ne_eq, Nat.reduceEqDiff, not_false_eq_true]; rfl) (hd : Nat.blt d n = true := by exact rfl) :
    FL P r n ops Q ({ dst := some d, op := .pick z x y, type := ty, pos := pos, after := after, guard := none } :: rest) σ w := Rw hc hv hd h
theorem On {dst : Option Nat} {j : Nat} {b : Bool} {t : Nat} (h : FL P r n ops Q ({ dst := dst, op := op, type := ty, pos := pos, after := after, guard := none } :: rest) σ w) (hj : (ops[j]?).bind (fun o : Oper => o.dst) = some t := by exact rfl) (hb : σ t = .bool b := by exact rfl) :
    FL P r n ops Q ({ dst := dst, op := op, type := ty, pos := pos, after := after, guard := some (j, b) } :: rest) σ w := Y0 hj hb h
theorem Of {dst : Option Nat} {j : Nat} {b : Bool} {t : Nat} (h : FL P r n ops Q rest (nu σ dst undef) w) (hj : (ops[j]?).bind (fun o : Oper => o.dst) = some t := by exact rfl) (hb : σ t = .bool (!b) := by exact rfl) (hd : Ct n dst = true := by exact rfl) :
    FL P r n ops Q ({ dst := dst, op := op, type := ty, pos := pos, after := after, guard := some (j, b) } :: rest) σ w := Xu hj hb hd h
theorem Ou {dst : Option Nat} {j : Nat} {b : Bool} {t : Nat} (h : FL P r n ops Q rest (nu σ dst undef) w) (hj : (ops[j]?).bind (fun o : Oper => o.dst) = some t := by exact rfl) (hb : σ.get t = undef := by exact rfl) (hd : Ct n dst = true := by exact rfl) :
    FL P r n ops Q ({ dst := dst, op := op, type := ty, pos := pos, after := after, guard := some (j, b) } :: rest) σ w := Vw hj hb hd h
theorem Ld {d b o : Nat} {x : Operand} {T : TypeId} [OneCell P T] {cs : List Value} {E : TypeId} {v : Value} (H : Sep w₀ S rs w) (h : FL P r n ops Q rest (upd σ d v) w) (hx : evF σ x = .pointer (some ⟨b, o, none⟩) := by exact rfl) (hat : At rs (blk b cs E) put := by first | exact At0 | exact At1 | exact At2 | exact At3 | exact At4 | exact At5 | exact At6 | exact At7 | exact At8 | exact At9) (hv : cs[o]? = some v := by exact rfl) (hd : Nat.blt d n = true := by exact rfl) :
    FL P r n ops Q ({ dst := some d, op := .load T x, type := ty, pos := pos, after := after, guard := none } :: rest) σ w := Oo H hx hat hv hd h
section
variable {d : Nat} {x y : Operand} {T U : TypeId} {k : IntKind} {a b : Int}
theorem Ve (h : FL P r n ops Q rest (upd σ d (.bool (decide (a = b)))) w) (hx : evF σ x = .int k a := by exact rfl) (hy : evF σ y = .int k b := by exact rfl) (hd : Nat.blt d n = true := by exact rfl) :
    FL P r n ops Q ({ dst := some d, op := .binOp .eql T x y U, type := ty, pos := pos, after := after, guard := none } :: rest) σ w := eu (Gives.eql hx hy) hd h
theorem Vn (h : FL P r n ops Q rest (upd σ d (.bool (decide (a ≠ b)))) w) (hx : evF σ x = .int k a := by exact rfl) (hy : evF σ y = .int k b := by exact rfl) (hd : Nat.blt d n = true := by exact rfl) :
    FL P r n ops Q ({ dst := some d, op := .binOp .neq T x y U, type := ty, pos := pos, after := after, guard := none } :: rest) σ w := eu (Gives.neq hx hy) hd h
theorem Vl (h : FL P r n ops Q rest (upd σ d (.bool (decide (a < b)))) w) (hx : evF σ x = .int k a := by exact rfl) (hy : evF σ y = .int k b := by exact rfl) (hd : Nat.blt d n = true := by exact rfl) :
    FL P r n ops Q ({ dst := some d, op := .binOp .lss T x y U, type := ty, pos := pos, after := after, guard := none } :: rest) σ w := eu (Gives.lss hx hy) hd h
theorem Vg (h : FL P r n ops Q rest (upd σ d (.bool (decide (b < a)))) w) (hx : evF σ x = .int k a := by exact rfl) (hy : evF σ y = .int k b := by exact rfl) (hd : Nat.blt d n = true := by exact rfl) :
    FL P r n ops Q ({ dst := some d, op := .binOp .gtr T x y U, type := ty, pos := pos, after := after, guard := none } :: rest) σ w := eu (Gives.gtr hx hy) hd h
theorem Vx {i : Nat} {vs : Array Value} {v : Value} (h : FL P r n ops Q rest (upd σ d v) w) (hx : evF σ x = .tuple vs := by exact rfl) (hv : vs[i]? = some v := by exact rfl) (hd : Nat.blt d n = true := by exact rfl) :
    FL P r n ops Q ({ dst := some d, op := .extract x i, type := ty, pos := pos, after := after, guard := none } :: rest) σ w := eu (Gives.extract hx hv) hd h
theorem Vt {t : TypeId} [lM P t] {l : List UInt8} (h : FL P r n ops Q rest (upd σ d (.int .i64 l.length)) w) (hx : evF σ x = str l := by exact rfl) (hd : Nat.blt d n = true := by exact rfl) :
    FL P r n ops Q ({ dst := some d, op := .call { callee := .builtin .len, args := #[x], argTypes := #[t] }, type := ty, pos := pos, after := after, guard := none } :: rest) σ w := eu (Gives.VA hx) hd h
theorem Vs {t e : TypeId} [dA P t e] {A : Option Addr} {m c : Nat} (h : FL P r n ops Q rest (upd σ d (.int .i64 m)) w) (hx : evF σ x = .slice A m c := by exact rfl) (hd : Nat.blt d n = true := by exact rfl) :
    FL P r n ops Q ({ dst := some d, op := .call { callee := .builtin .len, args := #[x], argTypes := #[t] }, type := ty, pos := pos, after := after, guard := none } :: rest) σ w := eu (Gives.rJ hx) hd h
theorem Vf {s f k b : Nat} [dZ P s f k] (h : FL P r n ops Q rest (upd σ d (.pointer (some ⟨b, k, none⟩))) w) (hx : evF σ x = .pointer (some ⟨b, 0, none⟩) := by exact rfl) (hd : Nat.blt d n = true := by exact rfl) :
    FL P r n ops Q ({ dst := some d, op := .fieldAddr s x f, type := ty, pos := pos, after := after, guard := none } :: rest) σ w := eu (Gives.dx hx) hd h
end
end
section
variable {P : Program} {n : Nat} {Q : Post} {σ : St} {w : World} {l : List ResultVar} {R : Value → World → Prop}
theorem Rb {r : Option Nat} {id : Nat} {y : Code} (h : Q .ret σ w) : FW P r n .ret (Er id (Cv P r n y Q)) σ w := aM (aH (aL h))
theorem Rs {r : Option Nat} {y : Code} (h : Q .ret σ w) : FW P r n .ret (Cv P r n y Q) σ w := aM (aL h)
end
section
variable {P : Program} {r : Option Nat} {n : Nat} {ops : Array Oper} {Q : Post} {rest : List Oper} {σ : St} {w : World} {ty : TypeId} {pos : String} {after : Array Edge} {guard : Option (Nat × Bool)} {lv : List Bool} {pd : List (Nat × Bool)} {op : Op} {d : Nat} {v : Value}
theorem Gp (fK : fC n ops = true) (i : Nat) (ho : ops[i]? = some { dst := some d, op := op, type := ty, pos := pos, after := after, guard := guard }) (hw : Region.wanted { dst := some d, op := op, type := ty, pos := pos, after := after, guard := guard } (dR ops σ) = true) (hg : ∀ w, Gives P (evF σ) op ty w v w)
    (h : FG P r n ops Q (lv.set i true) ((i, true) :: pd) (upd σ d v) w) (jl : mP ops lv (pd.map (·.1)) i = true := by kernel_rfl) : FG P r n ops Q lv pd σ w := FGp fK i ho hw hg jl h
theorem Gl (fK : fC n ops = true) (i : Nat) (ho : ops[i]? = some { dst := some d, op := op, type := ty, pos := pos, after := after, guard := guard }) (hw : Region.wanted { dst := some d, op := op, type := ty, pos := pos, after := after, guard := guard } (dR ops σ) = true) (hg : Gives P (evF σ) op ty w v w)
    (h : FG P r n ops Q (lv.set i true) ((i, false) :: pd) (upd σ d v) w) (jl : mP ops lv (pd.map (·.1)) i = true := by kernel_rfl) : FG P r n ops Q lv pd σ w := FGl fK i ho hw hg jl h
theorem Gm (fK : fC n ops = true) (i : Nat) {x : Operand} (h : FG P r n ops Q (lv.set i true) ((i, true) :: pd) (upd σ d v) w) (ho : ops[i]? = some { dst := some d, op := .move x, type := ty, pos := pos, after := after, guard := guard } := by exact rfl)
    (hw : Region.wanted { dst := some d, op := .move x, type := ty, pos := pos, after := after, guard := guard } (dR ops σ) = true := by kernel_rfl) (hv : evF σ x = v := by simp only [evF, upd_same, upd_ne, ne_eq, Nat.reduceEqDiff, not_false_eq_true]; rfl) (jl : mP ops lv (pd.map (·.1)) i = true := by kernel_rfl) : FG P r n ops Q lv pd σ w := XI fK i ho hw hv jl h
theorem Vv (hg : Gives P (evF σ) op ty w v w) (h : FL P r n ops Q rest (upd σ d v) w) (hd : Nat.blt d n = true := by exact rfl) : FL P r n ops Q ({ dst := some d, op := op, type := ty, pos := pos, after := after, guard := none } :: rest) σ w := eu hg hd h
theorem Cp {c : Operand} {x y : Code} {p : Prop} [Decidable p] (hc : evF σ c = .bool (decide p)) (ht : p → FW P r n x Q σ w) (hf : ¬ p → FW P r n y Q σ w) : FW P r n (.cond c x y) Q σ w := Ro hc ht hf
theorem Cd {c : Operand} {x y : Code} {t : Bool} (hc : evF σ c = .bool t) (ht : t = true → FW P r n x Q σ w) (hf : t = false → FW P r n y Q σ w) : FW P r n (.cond c x y) Q σ w := Cc hc ht hf
end
end Go.Mw
namespace Go.Proofs.YtolaedhdjcnijaaGreatDoor
open Go Go.Mw Go.Lib

def I (n : Int) : Value := .int .i64 n
def I32 (n : Int) : Value := .int .i32 n
def B (c : UInt8) : Value := .int .u8 c.toNat
def fits (n : Int) : Prop := -9223372036854775808 ≤ n ∧ n ≤ 9223372036854775807
theorem VN {α : Type} {f : α → Value} (h : ∀ x, (f x).oneCell' = true) (l : List α) : ∀ u ∈ l.map f, u.oneCell' = true := fun u hu => by
 obtain ⟨x, _, rfl⟩ := List.mem_map.1 hu
 exact h x
theorem Zz {n : Int} (h0 : 0 ≤ n) : IntKind.u8.wrap n = ((n.toNat.toUInt8).toNat : Int) := by
 rw [IntKind.wrap_u8]
 simp
 omega
theorem wrap32 {n : Int} (h : -2147483648 ≤ n ∧ n ≤ 2147483647) : IntKind.i32.wrap n = n := by
 rw [IntKind.wrap_i32]; omega
theorem wrap64 {n : Int} (h : -9223372036854775808 ≤ n ∧ n ≤ 9223372036854775807) : IntKind.i64.wrap n = n := IntWalk.i64_in _ h
end Go.Proofs.YtolaedhdjcnijaaGreatDoor
namespace Go.Mw
section gives
variable {P : Program} {ρ : Operand → Value} {ty : TypeId} {w : World} {x y : Operand} {T U : TypeId} {k : IntKind}
theorem Gives.oO {a b : Nat} (hx : ρ x = .int k a) (hy : ρ y = .int k b) (h0 : b ≠ 0) : Gives P ρ (.binOp .rem T x y U) ty w (.int k ((a % b : Nat) : Int)) w := by
 have := Gives.rem (P := P) (ty := ty) (w := w) (T := T) (U := U) hx hy (by omega)
 rwa [Int.tmod_eq_emod_of_nonneg (by omega), ← Int.natCast_emod] at this
theorem Gives.xO {a b : Nat} (hx : ρ x = .int .i64 a) (hy : ρ y = .int .i64 b) (h0 : b ≠ 0) (h : a ≤ 9223372036854775807) : Gives P ρ (.binOp .quo T x y U) ty w (.int .i64 ((a / b : Nat) : Int)) w := by
 have := Gives.quo (P := P) (ty := ty) (w := w) (T := T) (U := U) hx hy (by omega)
 have e : a / b ≤ a := Nat.div_le_self a b
 have e2 : (a : Int).tdiv (b : Int) = ((a / b : Nat) : Int) := by rw [Int.tdiv_eq_ediv_of_nonneg (by omega)]; rfl
 obtain ⟨q, hq⟩ : ∃ q, q = a / b := ⟨_, rfl⟩
 rw [← hq] at e e2 ⊢
 rwa [e2, IntWalk.i64_in (q : Int) (by omega)] at this
theorem Gives.XK {a b : Nat} (hx : ρ x = .int .u8 a) (hy : ρ y = .int .u8 b) (h0 : b ≠ 0) (h : a < 256) : Gives P ρ (.binOp .quo T x y U) ty w (.int .u8 ((a / b : Nat) : Int)) w := by
 have := Gives.quo (P := P) (ty := ty) (w := w) (T := T) (U := U) hx hy (by omega)
 have e : a / b ≤ a := Nat.div_le_self a b
 have e2 : (a : Int).tdiv (b : Int) = ((a / b : Nat) : Int) := by rw [Int.tdiv_eq_ediv_of_nonneg (by omega)]; rfl
 obtain ⟨q, hq⟩ : ∃ q, q = a / b := ⟨_, rfl⟩
 rw [← hq] at e e2 ⊢
 rwa [e2, IntKind.wrap_u8, Int.emod_eq_of_lt (by omega) (by omega)] at this
theorem Gives.WW {s t : TypeId} {c : UInt8} [hs : iH P s .u8] [ht : iH P t .i64] (hx : ρ x = .int .u8 c.toNat) : Gives P ρ (.convert s t x) ty w (.int .i64 c.toNat) w := by
 have := Gives.conv (P := P) (ty := ty) (w := w) (s := s) (t := t) (k := .i64) hx
 have hc := c.toNat_lt
 rwa [IntWalk.i64_in _ (by omega)] at this
theorem Gives.OO {s t : TypeId} {j : IntKind} {a : Int} [hs : iH P s j] [ht : iH P t .i64] (hx : ρ x = .int j a) (h : -9223372036854775808 ≤ a ∧ a ≤ 9223372036854775807) : Gives P ρ (.convert s t x) ty w (.int .i64 a) w := by
 have := Gives.conv (P := P) (ty := ty) (w := w) (s := s) (t := t) (k := .i64) hx
 rwa [IntWalk.i64_in _ h] at this
theorem Gives.xq {s t : TypeId} {j : IntKind} {a : Int} [hs : iH P s j] [ht : iH P t .i32] (hx : ρ x = .int j a) (h : -2147483648 ≤ a ∧ a ≤ 2147483647) : Gives P ρ (.convert s t x) ty w (.int .i32 a) w := by
 have := Gives.conv (P := P) (ty := ty) (w := w) (s := s) (t := t) (k := .i32) hx
 rwa [Go.Proofs.YtolaedhdjcnijaaGreatDoor.wrap32 h] at this
theorem Gives.ji {s t : TypeId} {j : IntKind} {a : Int} [hs : iH P s j] [ht : iH P t .u8] (hx : ρ x = .int j a) (h : 0 ≤ a) : Gives P ρ (.convert s t x) ty w (.int .u8 (a.toNat.toUInt8).toNat) w := by
 have := Gives.conv (P := P) (ty := ty) (w := w) (s := s) (t := t) (k := .u8) hx
 rwa [Go.Proofs.YtolaedhdjcnijaaGreatDoor.Zz h] at this
end gives
end Go.Mw
namespace Go.Mw
open Go.RowKit Go.Proofs.YtolaedhdjcnijaaGreatDoor
section rules
variable {P : Program} {r : Option Nat} {n : Nat} {ops : Array Oper} {Q : Post} {rest : List Oper} {σ : St} {w w' w₀ : World} {S : Nat → Prop} {rs : List HP} {put : HP → List HP} {ty : TypeId} {pos : String} {after : Array Edge} {guard : Option (Nat × Bool)} {lv : List Bool} {pd pd' : List (Nat × Bool)}
def gU (e : Nat) (v : Value) (xs : List UInt8) : HP := yj e 1 v xs.length (xs.map B)
theorem ZA (xs : List UInt8) : ∀ u ∈ xs.map B, u.oneCell' = true := VN (fun _ => rfl) xs
theorem xY {ρ : Operand → Value} {x y : Operand} {t e b c : TypeId} [hs : dA P t e] [hc : Cells P e 1 1] [hz : Zero P e (.int .u8 0)] {v : Value} {xs news : List UInt8}
    (H : Sep w₀ S (blk b (news.map B) e :: rs) w) (hx : ρ x = v) (hy : ρ y = .slice (some ⟨b, 0, none⟩) c c) (hc' : c = news.length) (hat : At rs (gU e v xs) put) (yT : xs.length + news.length ≤ 140737488355328) :
    ∃ v' w', Gives P ρ (.call { callee := .builtin .append, args := #[x, y], argTypes := #[t, t] }) ty w v' w' ∧ Sep w₀ S (put (gU e v' (xs ++ news))) w' := by
  subst hc'
  have hr : iI w (some ⟨b, 0, none⟩) news.length 1 (news.map B) := Sep.gJ H At0 (by simp)
  have H2 := H.fI
  obtain ⟨F, hp, _, _⟩ := H2.focus hat
  obtain ⟨v', w', iP, l9, hg, hb⟩ := sI (P := P) (ty := ty) t e (z := .int .u8 0) (by decide) rfl v xs.length (xs.map B) hp.1 (some ⟨b, 0, none⟩) news.length news.length (news.map B) hr (ZA news) (by unfold maxLen; omega) (by omega)
  refine ⟨v', w', fun _ _ _ _ => ?_, ?_⟩
  · simp only [execOp, resolve, invoke, builtin, Sem.run_bind, Sem.run_pure, Result.andThen_ok, List.map_toArray, List.map_cons, List.map_nil, hx, hy, iP]
  refine H2.y7 hat hg ?_ (by rcases hb with e | e <;> simp [e])
  rw [← List.map_append] at l9
  rw [List.length_append]
  exact l9
theorem fq {d : Nat} {x y : Operand} {t e b c : TypeId} [hs : dA P t e] [hc : Cells P e 1 1] [hz : Zero P e (.int .u8 0)] {v : Value} {xs news : List UInt8}
    (H : Sep w₀ S (blk b (news.map B) e :: rs) w) (hat : At rs (gU e v xs) put) (yT : xs.length + news.length ≤ 140737488355328) (hx : evF σ x = v := by exact rfl) (hy : evF σ y = .slice (some ⟨b, 0, none⟩) c c := by exact rfl) (hc' : c = news.length := by exact rfl) (hd : Nat.blt d n = true := by exact rfl)
    (h : ∀ v' w', Sep w₀ S (put (gU e v' (xs ++ news))) w' → FL P r n ops Q rest (upd σ d v') w') :
    FL P r n ops Q ({ dst := some d, op := .call { callee := .builtin .append, args := #[x, y], argTypes := #[t, t] }, type := ty, pos := pos, after := after, guard := none } :: rest) σ w := by
  obtain ⟨v', w', hg, Uu⟩ := xY (P := P) (t := t) (ty := ty) H hx hy hc' hat yT
  exact eu hg hd (h v' w' Uu)
theorem FU (fK : fC n ops = true) (i : Nat) (pd' : List (Nat × Bool)) {d : Nat} {x y : Operand} {t e b c : TypeId} [hs : dA P t e] [hc : Cells P e 1 1] [hz : Zero P e (.int .u8 0)] {v : Value} {xs news : List UInt8}
    (H : Sep w₀ S (blk b (news.map B) e :: rs) w) (hat : At rs (gU e v xs) put) (yT : xs.length + news.length ≤ 140737488355328)
    (ho : ops[i]? = some { dst := some d, op := .call { callee := .builtin .append, args := #[x, y], argTypes := #[t, t] }, type := ty, pos := pos, after := after, guard := guard } := by exact rfl)
    (hw : Region.wanted { dst := some d, op := .call { callee := .builtin .append, args := #[x, y], argTypes := #[t, t] }, type := ty, pos := pos, after := after, guard := guard } (dR ops σ) = true := by kernel_rfl)
    (hx : evF σ x = v := by exact rfl) (hy : evF σ y = .slice (some ⟨b, 0, none⟩) c c := by exact rfl) (hc' : c = news.length := by exact rfl) (jl : iq ops lv (pd.map (·.1)) i = true := by kernel_rfl) (qA : pd.filter (fun p => !((above ops i).contains p.1)) = pd' := by kernel_rfl)
    (h : ∀ v' w', Sep w₀ S (put (gU e v' (xs ++ news))) w' → jX P ops (upd σ d v') w' pd' ∧ FG P r n ops Q (lv.set i true) pd' (upd σ d v') w') : FG P r n ops Q lv pd σ w :=
  xS fK i pd' ho hw (xY (P := P) (t := t) (ty := ty) H hx hy hc' hat yT) jl qA h
theorem Sep.VO {b e : Nat} {xs : List UInt8} (H : Sep w₀ S rs w) (hat : At rs (blk b (xs.map B) e) put) (hm : xs.length ≤ maxLen) : Sep w₀ S (put (gU e (.slice (some ⟨b, 0, none⟩) xs.length xs.length) xs)) w :=
 Sep.JY H hat (by simp) hm
theorem Sep.zy (H : Sep w₀ S rs w) (e : Nat) : Sep w₀ S (gU e (.slice none 0 0) [] :: rs) w := H.Ru e 1
theorem Gives.Jg {ρ : Operand → Value} {x : Operand} {s t e : TypeId} [hs : dA P s e] [he : iH P e .u8] [hd : lM P t] {v : Value} {xs : List UInt8} (H : Sep w₀ S rs w) (hat : At rs (gU e v xs) put) (hx : ρ x = v) : Gives P ρ (.convert s t x) ty w (str xs) w := by
 obtain ⟨A, c, rfl, _, _, _⟩ := Sep.qE H hat
 exact Gives.tq hx (Sep.rowAt H hat)
theorem KN {t u ty e : TypeId} [hs : dA P t e] [hu : lM P u] [hc : Cells P e 1 1] [hz : Zero P e (.int .u8 0)] {v : Value} {xs news : List UInt8}
    (l9 : w.ownsRow 0 e 1 v xs.length (xs.map B)) (yT : xs.length + news.length ≤ 140737488355328) :
    ∃ v' w', (Builtin.append_ #[t, u] ty #[v, str news]).run P w = .ok v' w' ∧ w'.ownsRow 0 e 1 v' (xs ++ news).length ((xs ++ news).map B) ∧ w.grownBy w' v.ownBlock ∧ (v'.ownBlock = v.ownBlock ∨ v'.ownBlock = some w.heap.size ∨ v'.ownBlock = none) := by
  obtain ⟨i, hi, qB⟩ := Option.map_eq_some_iff.1 hc.size
  simp only [Prod.mk.injEq] at qB
  have vN : i.zero = some (.int .u8 0) := by
    have := hz.run w
    simp [zeroValue, typeInfo, hi] at this
    cases hq : i.zero with
    | none => simp [hq] at this
    | some u => simp [hq] at this; rw [this]
  obtain ⟨v', w', iP, h1, h2, h3⟩ := Lib.run_append_own_string (P := P) w 0 t u ty e i hs.und hu.und hi vN qB.1 qB.2 v xs.length (xs.map B) l9 ⟨news.toArray⟩ (by rw [size_mk]; unfold maxLen; omega) (by rw [size_mk]; omega) (Nat.zero_le _)
  have e1 : Lib.strCells ⟨news.toArray⟩ = news.map B := by simp only [Lib.strCells]; rfl
  rw [e1, size_mk] at h1
  refine ⟨v', w', iP, by rw [List.length_append, List.map_append]; exact h1, h2, ?_⟩
  rcases l9.2 with ⟨rfl, h0⟩ | ⟨g, cap, cur, rfl, hbg, hg, hnc, YS, oK, acS⟩
  · by_cases hm : news.length = 0
    · rw [h3.2 ⟨rfl, by rw [size_mk]; exact hm⟩]; exact .inl rfl
    have hr := run_append_nil_string (P := P) w t u ty e i (.int .u8 0) hs.und hu.und hi vN ⟨news.toArray⟩ (by rw [size_mk]; omega) (by rw [size_mk]; omega) (by rw [size_mk, qB.2]; omega)
    have hx : xs.length = 0 := h0
    rw [iP] at hr
    injection hr with hr _
    rw [hr]; exact .inr (.inl rfl)
  by_cases hroom : xs.length + news.length ≤ cap
  · have hcs' : cur.size = cap := by simpa using oK
    have hr := Lib.run_append_room_string (P := P) w t u ty e i hs.und hu.und hi qB.1 g xs.length cap cur hg ⟨news.toArray⟩ (by rw [size_mk]; exact hroom) (by rw [size_mk]; omega)
    rw [iP] at hr
    injection hr with hr _
    rw [hr]; exact .inl rfl
  have holds : ∀ j u, (xs.map B)[j]? = some u → w.cell? ((⟨g, 0, none⟩ : Addr).add j) = some u := l9.cells (g := g) rfl
  have hr := Lib.run_append_grow_string (P := P) w t u ty e i (.int .u8 0) hs.und hu.und hi vN ⟨g, 0, none⟩ xs.length cap (xs.map B) (by rw [qB.1]; simp) holds ⟨news.toArray⟩ (by rw [size_mk]; omega) (by rw [size_mk]; omega) (by rw [size_mk, qB.2]; exact growslice_fits (by omega) (by omega))
  rw [iP] at hr
  injection hr with hr _
  rw [hr]; exact .inr (.inl rfl)
theorem tJ {d : Nat} {x y : Operand} {t u e : TypeId} [hs : dA P t e] [hu : lM P u] [hc : Cells P e 1 1] [hz : Zero P e (.int .u8 0)] {v : Value} {xs news : List UInt8}
    (H : Sep w₀ S rs w) (hat : At rs (gU e v xs) put) (yT : xs.length + news.length ≤ 140737488355328) (hx : evF σ x = v := by exact rfl) (hy : evF σ y = str news := by exact rfl) (hd : Nat.blt d n = true := by exact rfl)
    (h : ∀ v' w', Sep w₀ S (put (gU e v' (xs ++ news))) w' → FL P r n ops Q rest (upd σ d v') w') :
    FL P r n ops Q ({ dst := some d, op := .call { callee := .builtin .append, args := #[x, y], argTypes := #[t, u] }, type := ty, pos := pos, after := after, guard := none } :: rest) σ w := by
  obtain ⟨F, hp, _, _⟩ := H.focus hat
  obtain ⟨v', w', iP, l9, hg, hb⟩ := KN (P := P) (t := t) (u := u) (ty := ty) (news := news) hp.1 yT
  refine eu (v := v') (w' := w') (fun _ _ _ _ => ?_) hd (h v' w' (H.y7 hat hg l9 hb))
  simp only [execOp, resolve, invoke, builtin, Sem.run_bind, Sem.run_pure, Result.andThen_ok, List.map_toArray, List.map_cons, List.map_nil, hx, hy, iP]
end rules
end Go.Mw
namespace Go.Mw
section
variable {P : Program} {r : Option Nat} {n : Nat} {ops : Array Oper} {Q : Post} {σ : St} {w : World} {ty : TypeId} {pos : String} {after : Array Edge} {guard : Option (Nat × Bool)} {lv : List Bool} {pd : List (Nat × Bool)}
theorem rX (fK : fC n ops = true) (e : Nat) (pd' : List (Nat × Bool)) {d : Nat} {x : Operand} {v : Value} (ho : ops[e]? = some { dst := some d, op := .assign x, type := ty, pos := pos, after := after, guard := guard } := by exact rfl)
    (hw : Region.wanted { dst := some d, op := .assign x, type := ty, pos := pos, after := after, guard := guard } (dR ops σ) = true := by kernel_rfl) (hx : evF σ x = v := by exact rfl) (jl : iq ops lv (pd.map (·.1)) e = true := by kernel_rfl)
    (qA : pd.filter (fun p => !((above ops e).contains p.1)) = pd' := by kernel_rfl) (h : jX P ops (upd σ d v) w pd' ∧ FG P r n ops Q (lv.set e true) pd' (upd σ d v) w) : FG P r n ops Q lv pd σ w :=
  xS (C := fun v' w' => v' = v ∧ w' = w) fK e pd' ho hw ⟨v, w, Gives.assign hx, rfl, rfl⟩ jl qA (fun v' w' h' => by rw [h'.1, h'.2]; exact h)
end
end Go.Mw
namespace Go.Proofs.YtolaedhdjcnijaaGreatDoor
open Go Go.Mw Go.Lib
set_option maxRecDepth 4000

def BR (l : List UInt8) : Nat := if l.length = 2 then (l.getD 0 0).toNat % 32 else if l.length = 3 then (l.getD 0 0).toNat % 16 else if l.length = 4 then (l.getD 0 0).toNat % 8 else (l.getD 0 0).toNat
def qw (l : List UInt8) (i : Nat) : Nat := ((l.take i).drop 1).foldl (fun n c => 64 * n + c.toNat % 64) (BR l)
theorem FV (l : List UInt8) : qw l 1 = BR l := by
 unfold qw
 rw [List.drop_of_length_le (by rw [List.length_take]; omega)]
 rfl
theorem tK {l : List UInt8} {i : Nat} (h1 : 1 ≤ i) (h : i < l.length) : qw l (i + 1) = 64 * qw l i + (l.getD i 0).toNat % 64 := by
 unfold qw
 rw [List.take_add_one, List.getElem?_eq_getElem h, List.drop_append_of_le_length (by rw [List.length_take]; omega), List.foldl_append]
 simp [List.getD_eq_getElem?_getD, List.getElem?_eq_getElem h]
theorem Tw {l : List UInt8} {i : Nat} (h1 : 1 ≤ i) (h4 : i ≤ 4) (h : i ≤ l.length) : qw l i < 67108864 := by
 have a : qw l 1 ≤ 255 := by
  rw [FV]
  have := (l.getD 0 0).toNat_lt
  unfold BR
  repeat' split
  all_goals omega
 have hi : i = 1 ∨ i = 2 ∨ i = 3 ∨ i = 4 := by omega
 have s2 : 1 < l.length → qw l 2 = 64 * qw l 1 + (l.getD 1 0).toNat % 64 := tK (by omega)
 have s3 : 2 < l.length → qw l 3 = 64 * qw l 2 + (l.getD 2 0).toNat % 64 := tK (by omega)
 have s4 : 3 < l.length → qw l 4 = 64 * qw l 3 + (l.getD 3 0).toNat % 64 := tK (by omega)
 rcases hi with rfl | rfl | rfl | rfl <;> omega
theorem Qi {l : List UInt8} (h1 : 1 ≤ l.length) (h4 : l.length ≤ 4) : qw l l.length = qZ l := by
 match l, h1, h4 with
 | [a], _, _ => rfl
 | [a, b], _, _ => rfl
 | [a, b, c], _, _ => rfl
 | [a, b, c, d], _, _ => rfl
section
variable {w : World} {l : List UInt8}
theorem Qj (h1 : 1 ≤ l.length) (h4 : l.length ≤ 4) : bF Tryz.prog 240 [str l] w fun v w' => v = I32 (qZ l) ∧ w = w' := by
 have H := Sep.bB w
 have h8 := (l.getD 0 0).toNat_lt
 refine dP Tryz.func240 rfl rfl rfl rfl ?_
 refine Sr (Am ?_)
 refine Nx (Mv ?_)
 refine Vv (Gives.fF (i := 0) rfl rfl (by omega)) (Vv (Gives.WW rfl) ?_)
 refine Am ?_
 refine Qn (fO (fun _ : Unit => [(0, str l), (3, I (BR l))]) (fun _ w' => Sep w noB [] w' ∧ w = w') ?_ ?_)
 ·refine Sr (Mv ?_)
  refine Vt ?_
  refine Qn (aF (Sr (Ve ?_)))
  refine Am ?_
  refine Qn (Cp rfl (fun Ia => ?_) (fun Ia => ?_))
  ·have e0 : BR l = (l.getD 0 0).toNat % 32 := by unfold BR; rw [if_pos (by omega)]
   refine aB (Mv ?_)
   refine Vv (Gives.oO (b := 32) rfl rfl (by omega)) (Am ?_)
   refine aP (aA ?_)
   exact aS () ⟨rfl, by rw [e0]; rfl, trivial⟩ ⟨H, rfl⟩
  refine Sr (Ve ?_)
  refine Am ?_
  refine Qn (Cp rfl (fun Ib => ?_) (fun Ib => ?_))
  ·have e0 : BR l = (l.getD 0 0).toNat % 16 := by unfold BR; rw [if_neg (by omega), if_pos (by omega)]
   refine aB (Mv ?_)
   refine Vv (Gives.oO (b := 16) rfl rfl (by omega)) (Am ?_)
   refine aP (aA ?_)
   exact aS () ⟨rfl, by rw [e0]; rfl, trivial⟩ ⟨H, rfl⟩
  refine Sr (Ve ?_)
  refine Am ?_
  refine Qn (Cp rfl (fun Ic => ?_) (fun Ic => ?_))
  ·have e0 : BR l = (l.getD 0 0).toNat % 8 := by unfold BR; rw [if_neg (by omega), if_neg (by omega), if_pos (by omega)]
   refine aB (Mv ?_)
   refine Vv (Gives.oO (b := 8) rfl rfl (by omega)) (Am ?_)
   refine aP (aA ?_)
   exact aS () ⟨rfl, by rw [e0]; rfl, trivial⟩ ⟨H, rfl⟩
  have e0 : BR l = (l.getD 0 0).toNat := by unfold BR; rw [if_neg (by omega), if_neg (by omega), if_neg (by omega)]
  refine aY (aA ?_)
  exact aS () ⟨rfl, by rw [e0]; rfl, trivial⟩ ⟨H, rfl⟩
 intro _ τ wa hI
 obtain ⟨Ha, rfl⟩ := hI
 simp only [cZ, like, bC, bZ]
 refine au (Sr (Am ?_))
 refine Qn (aF (bA (fun i : Nat => [(0, str l), (3, I (qw l i)), (4, I i)]) (fun i w' => (1 ≤ i ∧ i ≤ l.length) ∧ w = w') (fun i _ => l.length - i) 1 ⟨rfl, by rw [FV]; rfl, rfl, trivial⟩ ⟨⟨Nat.le_refl _, h1⟩, rfl⟩ (fun i τ wb hI => ?_)))
 obtain ⟨⟨hi1, hi2⟩, rfl⟩ := hI
 have hb := Tw hi1 (by omega) hi2
 try simp only [cZ, like, bC]
 refine au (Sr (Mv ?_))
 refine Mv ?_
 refine Vt ?_
 refine Vl ?_
 refine Qn (Cp rfl (fun Id => ?_) (fun Id => ?_))
 ·have bU : i < l.length := by omega
  have hs := tK hi1 bU
  have h9 := (l.getD i 0).toNat_lt
  refine Sk (au (aF (aB (Mv ?_))))
  refine Vv (Gives.Rp rfl rfl rfl (by omega)) (Mv ?_)
  refine Mv ?_
  refine Vv (Gives.fF rfl rfl (by omega)) (Vv (Gives.WW rfl) ?_)
  refine Vv (Gives.oO (b := 64) rfl rfl (by omega)) (Vv (Gives.bM rfl rfl rfl (by omega)) ?_)
  refine Am ?_
  refine aP (aA (aj (aB (Mv ?_))))
  refine Vv (Gives.bM rfl rfl rfl (by omega)) (Am ?_)
  refine aP ?_
  exact aC (i + 1) ⟨rfl, by rw [hs, Int.natCast_add, Int.natCast_mul]; rfl, rfl, trivial⟩ ⟨⟨by omega, by omega⟩, rfl⟩ (by omega)
 have he : i = l.length := by omega
 refine bq (aT (aO (aV (aj (Sr (Mv ?_))))))
 refine Vv (Gives.xq rfl (by omega)) ?_
 rw [he, Qi h1 h4]
 refine Am ?_
 refine Qn (aM (ak (hR := ?_)))
 exact ⟨rfl, rfl⟩
theorem Jh (r : Int) (hr : -2147483648 ≤ r ∧ r ≤ 2147483647) : bF Tryz.prog 241 [I32 r] w fun v w' => v = .tuple #[str ((u7 r).getD []), .bool (u7 r).isSome] ∧ Kept noB w w' := by
 have H := Sep.bB w
 refine dP Tryz.func241 rfl rfl rfl rfl ?_
 by_cases hv : r < 0 ∨ 1114111 < r ∨ (55296 ≤ r ∧ r ≤ 57343)
 ·have hp : u7 r = none := if_pos hv
  rw [hp]
  refine Sr (Am ?_)
  refine Am ?_
  refine Nx (Mv ?_)
  refine Vv (Gives.OO rfl (by omega)) (Am ?_)
  refine Qn (au (Sr (Mv ?_)))
  refine Vl ?_
  refine Mv ?_
  refine aG (t := 10) rfl (fun EN => ?_) (fun EN => ?_)
  ·refine Of (Of (Pt ?_))
   refine Mv ?_
   refine Of (Of (Of (Ou (Ou (Of (Pt ?_))))))
   refine Qn (aQ rfl ?_)
   refine Sr (Am ?_)
   refine Am ?_
   refine Qn (Rs (ak (hR := ?_)))
   exact ⟨rfl, H.kept⟩
  refine On (Mv ?_)
  refine On (Vg ?_)
  refine Pf ?_
  refine Mv ?_
  refine aG (t := 14) rfl (fun Sa => ?_) (fun Sa => ?_)
  ·refine Of (Of (Of (Ou (Ou (Of (Pt ?_))))))
   refine Qn (aQ rfl ?_)
   refine Sr (Am ?_)
   refine Am ?_
   refine Qn (Rs (ak (hR := ?_)))
   exact ⟨rfl, H.kept⟩
  refine On (Mv ?_)
  refine On (Vv (Gives.geq rfl rfl) (On ?_))
  refine Mv ?_
  refine aG (t := 17) rfl (fun Sb => ?_) (fun Sb => ?_)
  ·refine On (Mv ?_)
   refine On (Vv (Gives.leq rfl rfl) (On ?_))
   refine Pt ?_
   refine Pf ?_
   refine Qn (Cp rfl (fun Ia => ?_) (fun Ia => ?_))
   ·refine Sr (Am ?_)
    refine Am ?_
    refine Qn (Rs (ak (hR := ?_)))
    exact ⟨rfl, H.kept⟩
   omega
  omega
 have hp : u7 r = some (encodeRune r) := if_neg hv
 rw [hp]
 obtain ⟨n, rfl⟩ : ∃ n : Nat, r = n := ⟨r.toNat, by omega⟩
 refine Sr (Am ?_)
 refine Am ?_
 refine Nx (Mv ?_)
 refine Vv (Gives.OO rfl (by omega)) (Am ?_)
 refine Qn (au (Sr (Mv ?_)))
 refine Vl ?_
 refine Mv ?_
 refine aG (t := 10) rfl (fun EN => ?_) (fun EN => ?_)
 ·omega
 refine On (Mv ?_)
 refine On (Vg ?_)
 refine Pf ?_
 refine Mv ?_
 refine aG (t := 14) rfl (fun Sc => ?_) (fun Sc => ?_)
 ·omega
 refine On (Mv ?_)
 refine On (Vv (Gives.geq rfl rfl) (On ?_))
 refine Mv ?_
 refine aG (t := 17) rfl (fun Sa => ?_) (fun Sa => ?_)
 ·refine On (Mv ?_)
  refine On (Vv (Gives.leq rfl rfl) (On ?_))
  refine Pt ?_
  refine Pf ?_
  refine Qn (Cp rfl (fun Ib => ?_) (fun Ib => ?_))
  ·omega
  refine Sk (Sr (Mv ?_))
  refine Vv (Gives.ji rfl (by omega)) (aX H (xs := [.tmp 23]) (out := [Value.int .u8 (((n : Int).toNat.toUInt8).toNat : Int)]) (aU.one rfl rfl aU.nil) rfl rfl rfl (fun b wa Ha _ => ?_))
  refine Am ?_
  refine Qn (au (aF (Sr (Mv ?_))))
  refine Vv (Gives.geq rfl rfl) (Am ?_)
  refine Qn (Cp rfl (fun Ic => ?_) (fun Ic => ?_))
  ·have he : [Value.int .u8 ((((240 + (n / 262144 : Nat) : Int)).toNat.toUInt8).toNat : Int), Value.int .u8 ((((128 + (n / 4096 % 64 : Nat) : Int)).toNat.toUInt8).toNat : Int), Value.int .u8 ((((128 + (n / 64 % 64 : Nat) : Int)).toNat.toUInt8).toNat : Int), Value.int .u8 ((((128 + (n % 64 : Nat) : Int)).toNat.toUInt8).toNat : Int)] = (encodeRune n).map fun u => Value.int .u8 u.toNat := by rw [encodeRune, encodeRuneZ_four (by omega) (by omega)]; rfl
   refine aB (Mv ?_)
   refine Vv (Gives.xO (b := 262144) rfl rfl (by omega) (by omega)) (Vv (Gives.bM rfl rfl rfl (by omega)) ?_)
   refine Vv (Gives.ji rfl (by omega)) (Mv ?_)
   refine Vv (Gives.xO (b := 4096) rfl rfl (by omega) (by omega)) (Vv (Gives.oO (b := 64) rfl rfl (by omega)) ?_)
   refine Vv (Gives.bM rfl rfl rfl (by omega)) (Vv (Gives.ji rfl (by omega)) ?_)
   refine Mv ?_
   refine Vv (Gives.xO (b := 64) rfl rfl (by omega) (by omega)) (Vv (Gives.oO (b := 64) rfl rfl (by omega)) ?_)
   refine Vv (Gives.bM rfl rfl rfl (by omega)) (Vv (Gives.ji rfl (by omega)) ?_)
   refine Mv ?_
   refine Vv (Gives.oO (b := 64) rfl rfl (by omega)) (Vv (Gives.bM rfl rfl rfl (by omega)) ?_)
   refine Vv (Gives.ji rfl (by omega)) (aX Ha (xs := [.tmp 31, .tmp 36, .tmp 41, .tmp 45]) (out := [Value.int .u8 ((((240 + (n / 262144 : Nat) : Int)).toNat.toUInt8).toNat : Int), Value.int .u8 ((((128 + (n / 4096 % 64 : Nat) : Int)).toNat.toUInt8).toNat : Int), Value.int .u8 ((((128 + (n / 64 % 64 : Nat) : Int)).toNat.toUInt8).toNat : Int), Value.int .u8 ((((128 + (n % 64 : Nat) : Int)).toNat.toUInt8).toNat : Int)]) (aU.one rfl rfl (aU.one rfl rfl (aU.one rfl rfl (aU.one rfl rfl aU.nil)))) rfl rfl rfl (fun b2 wb Hb _ => ?_))
   refine Am ?_
   refine aP (aA (aj (Sr (Mv ?_))))
   refine Vv (Gives.tq (l := encodeRune n) rfl (by rw [← he]; exact Sep.gJ Hb At0 rfl)) ?_
   refine Am ?_
   refine Am ?_
   refine Qn (aM (ak (hR := ?_)))
   exact ⟨rfl, Hb.kept⟩
  refine Sr (Mv ?_)
  refine Vv (Gives.geq rfl rfl) (Am ?_)
  refine Qn (Cp rfl (fun Id => ?_) (fun Id => ?_))
  ·have he : [Value.int .u8 ((((224 + (n / 4096 : Nat) : Int)).toNat.toUInt8).toNat : Int), Value.int .u8 ((((128 + (n / 64 % 64 : Nat) : Int)).toNat.toUInt8).toNat : Int), Value.int .u8 ((((128 + (n % 64 : Nat) : Int)).toNat.toUInt8).toNat : Int)] = (encodeRune n).map fun u => Value.int .u8 u.toNat := by rw [encodeRune, encodeRuneZ_three (by omega)]; rfl
   refine aB (Mv ?_)
   refine Vv (Gives.xO (b := 4096) rfl rfl (by omega) (by omega)) (Vv (Gives.bM rfl rfl rfl (by omega)) ?_)
   refine Vv (Gives.ji rfl (by omega)) (Mv ?_)
   refine Vv (Gives.xO (b := 64) rfl rfl (by omega) (by omega)) (Vv (Gives.oO (b := 64) rfl rfl (by omega)) ?_)
   refine Vv (Gives.bM rfl rfl rfl (by omega)) (Vv (Gives.ji rfl (by omega)) ?_)
   refine Mv ?_
   refine Vv (Gives.oO (b := 64) rfl rfl (by omega)) (Vv (Gives.bM rfl rfl rfl (by omega)) ?_)
   refine Vv (Gives.ji rfl (by omega)) (aX Ha (xs := [.tmp 53, .tmp 58, .tmp 62]) (out := [Value.int .u8 ((((224 + (n / 4096 : Nat) : Int)).toNat.toUInt8).toNat : Int), Value.int .u8 ((((128 + (n / 64 % 64 : Nat) : Int)).toNat.toUInt8).toNat : Int), Value.int .u8 ((((128 + (n % 64 : Nat) : Int)).toNat.toUInt8).toNat : Int)]) (aU.one rfl rfl (aU.one rfl rfl (aU.one rfl rfl aU.nil))) rfl rfl rfl (fun b2 wc Hc _ => ?_))
   refine Am ?_
   refine aP (aA (aj (Sr (Mv ?_))))
   refine Vv (Gives.tq (l := encodeRune n) rfl (by rw [← he]; exact Sep.gJ Hc At0 rfl)) ?_
   refine Am ?_
   refine Am ?_
   refine Qn (aM (ak (hR := ?_)))
   exact ⟨rfl, Hc.kept⟩
  refine Sr (Mv ?_)
  refine Vv (Gives.geq rfl rfl) (Am ?_)
  refine Qn (Cp rfl (fun Ie => ?_) (fun Ie => ?_))
  ·have he : [Value.int .u8 ((((192 + (n / 64 : Nat) : Int)).toNat.toUInt8).toNat : Int), Value.int .u8 ((((128 + (n % 64 : Nat) : Int)).toNat.toUInt8).toNat : Int)] = (encodeRune n).map fun u => Value.int .u8 u.toNat := by rw [encodeRune, encodeRuneZ_two (by omega) (by omega)]; rfl
   refine aB (Mv ?_)
   refine Vv (Gives.xO (b := 64) rfl rfl (by omega) (by omega)) (Vv (Gives.bM rfl rfl rfl (by omega)) ?_)
   refine Vv (Gives.ji rfl (by omega)) (Mv ?_)
   refine Vv (Gives.oO (b := 64) rfl rfl (by omega)) (Vv (Gives.bM rfl rfl rfl (by omega)) ?_)
   refine Vv (Gives.ji rfl (by omega)) (aX Ha (xs := [.tmp 70, .tmp 74]) (out := [Value.int .u8 ((((192 + (n / 64 : Nat) : Int)).toNat.toUInt8).toNat : Int), Value.int .u8 ((((128 + (n % 64 : Nat) : Int)).toNat.toUInt8).toNat : Int)]) (aU.one rfl rfl (aU.one rfl rfl aU.nil)) rfl rfl rfl (fun b2 wd Hd _ => ?_))
   refine Am ?_
   refine aP (aA (aj (Sr (Mv ?_))))
   refine Vv (Gives.tq (l := encodeRune n) rfl (by rw [← he]; exact Sep.gJ Hd At0 rfl)) ?_
   refine Am ?_
   refine Am ?_
   refine Qn (aM (ak (hR := ?_)))
   exact ⟨rfl, Hd.kept⟩
  have he : [Value.int .u8 (((n : Int).toNat.toUInt8).toNat : Int)] = (encodeRune n).map fun u => Value.int .u8 u.toNat := by rw [encodeRune, encodeRuneZ_one (by omega) (by omega)]; rfl
  refine aY (aA (aj (Sr (Mv ?_))))
  refine Vv (Gives.tq (l := encodeRune n) rfl (by rw [← he]; exact Sep.gJ Ha At0 rfl)) ?_
  refine Am ?_
  refine Am ?_
  refine Qn (aM (ak (hR := ?_)))
  exact ⟨rfl, Ha.kept⟩
 refine Of (Of (On (Pf ?_)))
 refine Pf ?_
 refine Qn (bg rfl ?_)
 refine Sk (Sr (Mv ?_))
 refine Vv (Gives.ji rfl (by omega)) (aX H (xs := [.tmp 23]) (out := [Value.int .u8 (((n : Int).toNat.toUInt8).toNat : Int)]) (aU.one rfl rfl aU.nil) rfl rfl rfl (fun b we He _ => ?_))
 refine Am ?_
 refine Qn (au (aF (Sr (Mv ?_))))
 refine Vv (Gives.geq rfl rfl) (Am ?_)
 refine Qn (Cp rfl (fun If => ?_) (fun If => ?_))
 ·have he : [Value.int .u8 ((((240 + (n / 262144 : Nat) : Int)).toNat.toUInt8).toNat : Int), Value.int .u8 ((((128 + (n / 4096 % 64 : Nat) : Int)).toNat.toUInt8).toNat : Int), Value.int .u8 ((((128 + (n / 64 % 64 : Nat) : Int)).toNat.toUInt8).toNat : Int), Value.int .u8 ((((128 + (n % 64 : Nat) : Int)).toNat.toUInt8).toNat : Int)] = (encodeRune n).map fun u => Value.int .u8 u.toNat := by rw [encodeRune, encodeRuneZ_four (by omega) (by omega)]; rfl
  refine aB (Mv ?_)
  refine Vv (Gives.xO (b := 262144) rfl rfl (by omega) (by omega)) (Vv (Gives.bM rfl rfl rfl (by omega)) ?_)
  refine Vv (Gives.ji rfl (by omega)) (Mv ?_)
  refine Vv (Gives.xO (b := 4096) rfl rfl (by omega) (by omega)) (Vv (Gives.oO (b := 64) rfl rfl (by omega)) ?_)
  refine Vv (Gives.bM rfl rfl rfl (by omega)) (Vv (Gives.ji rfl (by omega)) ?_)
  refine Mv ?_
  refine Vv (Gives.xO (b := 64) rfl rfl (by omega) (by omega)) (Vv (Gives.oO (b := 64) rfl rfl (by omega)) ?_)
  refine Vv (Gives.bM rfl rfl rfl (by omega)) (Vv (Gives.ji rfl (by omega)) ?_)
  refine Mv ?_
  refine Vv (Gives.oO (b := 64) rfl rfl (by omega)) (Vv (Gives.bM rfl rfl rfl (by omega)) ?_)
  refine Vv (Gives.ji rfl (by omega)) (aX He (xs := [.tmp 31, .tmp 36, .tmp 41, .tmp 45]) (out := [Value.int .u8 ((((240 + (n / 262144 : Nat) : Int)).toNat.toUInt8).toNat : Int), Value.int .u8 ((((128 + (n / 4096 % 64 : Nat) : Int)).toNat.toUInt8).toNat : Int), Value.int .u8 ((((128 + (n / 64 % 64 : Nat) : Int)).toNat.toUInt8).toNat : Int), Value.int .u8 ((((128 + (n % 64 : Nat) : Int)).toNat.toUInt8).toNat : Int)]) (aU.one rfl rfl (aU.one rfl rfl (aU.one rfl rfl (aU.one rfl rfl aU.nil)))) rfl rfl rfl (fun b2 wf Hf _ => ?_))
  refine Am ?_
  refine aP (aA (aj (Sr (Mv ?_))))
  refine Vv (Gives.tq (l := encodeRune n) rfl (by rw [← he]; exact Sep.gJ Hf At0 rfl)) ?_
  refine Am ?_
  refine Am ?_
  refine Qn (aM (ak (hR := ?_)))
  exact ⟨rfl, Hf.kept⟩
 refine Sr (Mv ?_)
 refine Vv (Gives.geq rfl rfl) (Am ?_)
 refine Qn (Cp rfl (fun Ig => ?_) (fun Ig => ?_))
 ·have he : [Value.int .u8 ((((224 + (n / 4096 : Nat) : Int)).toNat.toUInt8).toNat : Int), Value.int .u8 ((((128 + (n / 64 % 64 : Nat) : Int)).toNat.toUInt8).toNat : Int), Value.int .u8 ((((128 + (n % 64 : Nat) : Int)).toNat.toUInt8).toNat : Int)] = (encodeRune n).map fun u => Value.int .u8 u.toNat := by rw [encodeRune, encodeRuneZ_three (by omega)]; rfl
  refine aB (Mv ?_)
  refine Vv (Gives.xO (b := 4096) rfl rfl (by omega) (by omega)) (Vv (Gives.bM rfl rfl rfl (by omega)) ?_)
  refine Vv (Gives.ji rfl (by omega)) (Mv ?_)
  refine Vv (Gives.xO (b := 64) rfl rfl (by omega) (by omega)) (Vv (Gives.oO (b := 64) rfl rfl (by omega)) ?_)
  refine Vv (Gives.bM rfl rfl rfl (by omega)) (Vv (Gives.ji rfl (by omega)) ?_)
  refine Mv ?_
  refine Vv (Gives.oO (b := 64) rfl rfl (by omega)) (Vv (Gives.bM rfl rfl rfl (by omega)) ?_)
  refine Vv (Gives.ji rfl (by omega)) (aX He (xs := [.tmp 53, .tmp 58, .tmp 62]) (out := [Value.int .u8 ((((224 + (n / 4096 : Nat) : Int)).toNat.toUInt8).toNat : Int), Value.int .u8 ((((128 + (n / 64 % 64 : Nat) : Int)).toNat.toUInt8).toNat : Int), Value.int .u8 ((((128 + (n % 64 : Nat) : Int)).toNat.toUInt8).toNat : Int)]) (aU.one rfl rfl (aU.one rfl rfl (aU.one rfl rfl aU.nil))) rfl rfl rfl (fun b2 wg Hg _ => ?_))
  refine Am ?_
  refine aP (aA (aj (Sr (Mv ?_))))
  refine Vv (Gives.tq (l := encodeRune n) rfl (by rw [← he]; exact Sep.gJ Hg At0 rfl)) ?_
  refine Am ?_
  refine Am ?_
  refine Qn (aM (ak (hR := ?_)))
  exact ⟨rfl, Hg.kept⟩
 refine Sr (Mv ?_)
 refine Vv (Gives.geq rfl rfl) (Am ?_)
 refine Qn (Cp rfl (fun Ih => ?_) (fun Ih => ?_))
 ·have he : [Value.int .u8 ((((192 + (n / 64 : Nat) : Int)).toNat.toUInt8).toNat : Int), Value.int .u8 ((((128 + (n % 64 : Nat) : Int)).toNat.toUInt8).toNat : Int)] = (encodeRune n).map fun u => Value.int .u8 u.toNat := by rw [encodeRune, encodeRuneZ_two (by omega) (by omega)]; rfl
  refine aB (Mv ?_)
  refine Vv (Gives.xO (b := 64) rfl rfl (by omega) (by omega)) (Vv (Gives.bM rfl rfl rfl (by omega)) ?_)
  refine Vv (Gives.ji rfl (by omega)) (Mv ?_)
  refine Vv (Gives.oO (b := 64) rfl rfl (by omega)) (Vv (Gives.bM rfl rfl rfl (by omega)) ?_)
  refine Vv (Gives.ji rfl (by omega)) (aX He (xs := [.tmp 70, .tmp 74]) (out := [Value.int .u8 ((((192 + (n / 64 : Nat) : Int)).toNat.toUInt8).toNat : Int), Value.int .u8 ((((128 + (n % 64 : Nat) : Int)).toNat.toUInt8).toNat : Int)]) (aU.one rfl rfl (aU.one rfl rfl aU.nil)) rfl rfl rfl (fun b2 wh Hh _ => ?_))
  refine Am ?_
  refine aP (aA (aj (Sr (Mv ?_))))
  refine Vv (Gives.tq (l := encodeRune n) rfl (by rw [← he]; exact Sep.gJ Hh At0 rfl)) ?_
  refine Am ?_
  refine Am ?_
  refine Qn (aM (ak (hR := ?_)))
  exact ⟨rfl, Hh.kept⟩
 have he : [Value.int .u8 (((n : Int).toNat.toUInt8).toNat : Int)] = (encodeRune n).map fun u => Value.int .u8 u.toNat := by rw [encodeRune, encodeRuneZ_one (by omega) (by omega)]; rfl
 refine aY (aA (aj (Sr (Mv ?_))))
 refine Vv (Gives.tq (l := encodeRune n) rfl (by rw [← he]; exact Sep.gJ He At0 rfl)) ?_
 refine Am ?_
 refine Am ?_
 refine Qn (aM (ak (hR := ?_)))
 exact ⟨rfl, He.kept⟩
def gL (l : List UInt8) : Nat × Nat := (d9 l).getD (0, 0)
def OP (l : List UInt8) : Value := .tuple #[I32 (gL l).1, I (gL l).2, .bool (d9 l).isSome]
theorem Dq {l : List UInt8} (h : (d9 l).isSome = true) : d9 l = some (gL l) := by
 unfold gL
 cases e : d9 l with
 | none => rw [e] at h; cases h
 | some x => rfl
theorem KO {l : List UInt8} (h : (d9 l).isSome = true) : 1 ≤ (gL l).2 ∧ (gL l).2 ≤ 4 ∧ (gL l).2 ≤ l.length := by
 obtain ⟨a, b, c, _, _⟩ := qN (r := (gL l).1) (n := (gL l).2) (Dq h)
 exact ⟨a, b, c⟩
theorem Ni {l : List UInt8} (fM : l ≠ []) : validD l = if (d9 l).isSome = true then validD (l.drop (gL l).2) else false := by
 rw [yF fM]
 unfold gL
 cases d9 l <;> rfl
theorem Ji {l : List UInt8} {n : Nat} : okL l n ↔ (u7 (qZ (l.take n))).isSome = true ∧ (u7 (qZ (l.take n))).getD [] = l.take n := by
 unfold okL
 cases h : u7 (qZ (l.take n)) with
 | none => simp
 | some x => simp
theorem VP (l : List UInt8) : qZ l < 67108864 := by
 unfold qZ
 split
 ·rename_i a; have := a.toNat_lt; omega
 all_goals omega
theorem zA (l : List UInt8) (hl : l.length ≤ 9223372036854775807) : bF Tryz.prog 188 [str l] w fun v w' => v = OP l ∧ Kept noB w w' := by
 have H := Sep.bB w
 refine dP Tryz.func188 rfl rfl rfl rfl ?_
 refine Sr (Am ?_)
 refine Am ?_
 refine Am ?_
 refine Qn (au (Sr (Am ?_)))
 refine Qn (aF (bA (fun n : Nat => [(0, str l), (5, I n)]) (fun n w' => ((1 ≤ n ∧ n ≤ 5) ∧ ∀ j, 1 ≤ j → j < n → j ≤ l.length → ¬ okL l j) ∧ Sep w noB [] w') (fun n _ => 5 - n) 1 ⟨rfl, rfl, trivial⟩ ⟨⟨⟨Nat.le_refl _, by omega⟩, fun j h1 h2 => by omega⟩, H⟩ (fun n τ w6 hI => ?_)))
 obtain ⟨⟨⟨h1, h5⟩, iY⟩, H6⟩ := hI
 try simp only [cZ, like, bC, bZ]
 refine au (Sr (Mv ?_))
 refine Vv (Gives.leq rfl rfl) (Mv ?_)
 refine aG (t := 11) rfl (fun Sa => ?_) (fun Sa => ?_)
 ·refine On (Mv ?_)
  refine On (Mv ?_)
  refine On (Vt ?_)
  refine On (Vv (Gives.leq rfl rfl) (Pt ?_))
  refine Qn (Cp rfl (fun Ia => ?_) (fun Ia => ?_))
  ·have h4 : n ≤ 4 ∧ n ≤ l.length := by omega
   have zV : (l.take n).length = n := by rw [List.length_take]; omega
   have JR := VP (l.take n)
   refine Sk (au (aF (Sr (Mv ?_))))
   refine Mv ?_
   refine Vv (Gives.lq rfl rfl (by omega)) (dY (Qj (l := l.take n) (by omega) (by omega)) (h := ?_))
   refine Am ?_
   refine Nx (Mv ?_)
   refine aN H6 (Jh (qZ (l.take n)) (by omega)) (h := fun wa Ha _ => ?_)
   refine Mv ?_
   refine Vx ?_
   refine Vx ?_
   refine Am ?_
   refine Am ?_
   refine Nx (Mv ?_)
   refine Mv ?_
   refine dh (t := 29) rfl (fun Sb => ?_) (fun Sb => ?_)
   ·have vQ : (u7 (qZ (l.take n))).isSome = true := Sb
    refine On (Mv ?_)
    refine On (Mv ?_)
    refine On (Mv ?_)
    refine On (Vv (Gives.lq rfl rfl (by omega)) (On ?_))
    refine Vv (Gives.iD rfl rfl) (Pt ?_)
    refine Qn (Cp rfl (fun Ib => ?_) (fun Ib => ?_))
    ·have hsm : d9 l = some (qZ (l.take n), n) := nV h1 h4.1 h4.2 (Ji.2 ⟨vQ, Ib⟩)
     refine Sr (Mv ?_)
     refine Mv ?_
     refine Am ?_
     refine Am ?_
     refine Am ?_
     refine Qn (Rb (aR (aH (aL (ak (hR := ?_))))))
     exact ⟨by unfold OP gL; rw [hsm]; rfl, Ha.kept⟩
    have Yn : ¬ okL l n := fun h => Ib (Ji.1 h).2
    refine aY (aA (aj (aB (Mv ?_))))
    refine Vv (Gives.bM rfl rfl rfl (by omega)) (Am ?_)
    refine aP ?_
    exact aC (n + 1) ⟨rfl, rfl, trivial⟩ ⟨⟨⟨by omega, by omega⟩, fun j a b c => by
    rcases Nat.lt_or_ge j n with h | h
    ·exact iY j a h c
    have : j = n := by omega
    subst this
    exact Yn⟩, Ha⟩ (by omega)
   have Yn : ¬ okL l n := fun h => by rw [(Ji.1 h).1] at Sb; cases Sb
   refine Of (Of (Of (Of (Of (Pf ?_)))))
   refine Qn (bg rfl ?_)
   refine aY (aA (aj (aB (Mv ?_))))
   refine Vv (Gives.bM rfl rfl rfl (by omega)) (Am ?_)
   refine aP ?_
   exact aC (n + 1) ⟨rfl, rfl, trivial⟩ ⟨⟨⟨by omega, by omega⟩, fun j a b c => by
   rcases Nat.lt_or_ge j n with h | h
   ·exact iY j a h c
   have : j = n := by omega
   subst this
   exact Yn⟩, Ha⟩ (by omega)
  have qV : d9 l = none := Aj fun j a b c => by
   rcases Nat.lt_or_ge j n with h | h
   ·exact iY j a h c
   exfalso; omega
  refine bq (aT (aO (aV (aj (Sr (Am ?_))))))
  refine Am ?_
  refine Am ?_
  refine Qn (aM (ak (hR := ?_)))
  exact ⟨by unfold OP gL; rw [qV]; rfl, H6.kept⟩
 have hn5 : n = 5 := by omega
 have qV : d9 l = none := Aj fun j a b c => iY j a (by omega) c
 refine Of (Of (Of (Of (Pf ?_))))
 refine Qn (bg rfl ?_)
 refine bq (aT (aO (aV (aj (Sr (Am ?_))))))
 refine Am ?_
 refine Am ?_
 refine Qn (aM (ak (hR := ?_)))
 exact ⟨by unfold OP gL; rw [qV]; rfl, H6.kept⟩
end
end Go.Proofs.YtolaedhdjcnijaaGreatDoor
