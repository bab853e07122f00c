/-
 Runes in bytes: the document's way and the library's way, told plainly. No program stands here.
-/
import Derived.Lib.MapLaws
import Derived.Lib.ValidLaws
import Derived.Lib.ItoaNum
import Derived.Lib.ParseIntBTie
import Derived.Lib.Bytealg
set_option linter.unusedVariables false
set_option linter.unusedSimpArgs false
namespace Go.Proofs.YtmkaahkbhdlniaaGreatDoor
open Go Go.Lib

/-- The rune with which bytes begin, and its width. -/
def nextL (l : List UInt8) : Option (Nat × Nat) := if l = [] ∨ ((decodeL l).1 = 65533 ∧ (decodeL l).2 = 1) then none else some (decodeL l)
/-- A rune's bytes, if it is one. -/
def putL (r : Int) : Option (List UInt8) := if r < 0 ∨ 1114111 < r ∨ (55296 ≤ r ∧ r ≤ 57343) then none else some (encodeRune r)
/-- What bytes say, were they a rune's. -/
def numL : List UInt8 → Nat
 | [a] => a.toNat
 | [a, b] => 64 * (a.toNat % 32) + b.toNat % 64
 | [a, b, c] => 64 * (64 * (a.toNat % 16) + b.toNat % 64) + c.toNat % 64
 | [a, b, c, d] => 64 * (64 * (64 * (a.toNat % 8) + b.toNat % 64) + c.toNat % 64) + d.toNat % 64
 | _ => 0
/-- The first k bytes are a rune's. -/
def okL (l : List UInt8) (k : Nat) : Prop := putL (numL (l.take k) : Nat) = some (l.take k)
instance (l : List UInt8) (k : Nat) : Decidable (okL l k) := by unfold okL; infer_instance

theorem u8_eq {n : Nat} {a : UInt8} : n.toUInt8 = a ↔ n % 256 = a.toNat := by
 rw [← UInt8.toNat_inj]
 simp
section
variable {a b c d : UInt8} {t : List UInt8}
theorem ok1 : okL (a :: t) 1 ↔ a.toNat < 128 := by
 have ha := a.toNat_lt
 unfold okL
 simp only [List.take_succ_cons, List.take_zero, numL]
 unfold putL
 rw [if_neg (by omega)]
 constructor
 ·intro h
  refine Classical.byContradiction fun hn => ?_
  rw [encodeRune, encodeRuneZ_two (by omega) (by omega)] at h
  simp at h
 ·intro h
  rw [encodeRune, encodeRuneZ_one (by omega) (by omega)]
  simp
theorem ok2 : okL (a :: b :: t) 2 ↔ a.toNat / 32 = 6 ∧ b.toNat / 64 = 2 ∧ 128 ≤ a.toNat % 32 * 64 + b.toNat % 64 := by
 have ha := a.toNat_lt
 have hb := b.toNat_lt
 unfold okL
 simp only [List.take_succ_cons, List.take_zero, numL]
 unfold putL
 rw [if_neg (by omega)]
 by_cases h0 : 64 * (a.toNat % 32) + b.toNat % 64 < 128
 ·rw [encodeRune, encodeRuneZ_one (by omega) (by omega)]
  simp
  omega
 ·rw [encodeRune, encodeRuneZ_two (by omega) (by omega)]
  simp only [List.map_cons, List.map_nil, Option.some.injEq, List.cons.injEq, and_true, u8_eq]
  omega
theorem ok3 : okL (a :: b :: c :: t) 3 ↔ a.toNat / 16 = 14 ∧ b.toNat / 64 = 2 ∧ c.toNat / 64 = 2 ∧ 2048 ≤ a.toNat % 16 * 4096 + b.toNat % 64 * 64 + c.toNat % 64 ∧
    (a.toNat % 16 * 4096 + b.toNat % 64 * 64 + c.toNat % 64 < 55296 ∨ 57344 ≤ a.toNat % 16 * 4096 + b.toNat % 64 * 64 + c.toNat % 64) := by
  have ha := a.toNat_lt
  have hb := b.toNat_lt
  have hc := c.toNat_lt
  unfold okL
  simp only [List.take_succ_cons, List.take_zero, numL]
  unfold putL
  by_cases hs : 55296 ≤ 64 * (64 * (a.toNat % 16) + b.toNat % 64) + c.toNat % 64 ∧ 64 * (64 * (a.toNat % 16) + b.toNat % 64) + c.toNat % 64 ≤ 57343
  · rw [if_pos (by omega)]
    simp
    omega
  rw [if_neg (by omega)]
  by_cases h0 : 64 * (64 * (a.toNat % 16) + b.toNat % 64) + c.toNat % 64 < 128
  · rw [encodeRune, encodeRuneZ_one (by omega) (by omega)]
    simp
    omega
  by_cases h1 : 64 * (64 * (a.toNat % 16) + b.toNat % 64) + c.toNat % 64 < 2048
  · rw [encodeRune, encodeRuneZ_two (by omega) (by omega)]
    simp
    omega
  · rw [encodeRune, encodeRuneZ_three (by omega)]
    simp only [List.map_cons, List.map_nil, Option.some.injEq, List.cons.injEq, and_true, u8_eq]
    omega
theorem ok4 : okL (a :: b :: c :: d :: t) 4 ↔ a.toNat / 8 = 30 ∧ b.toNat / 64 = 2 ∧ c.toNat / 64 = 2 ∧ d.toNat / 64 = 2 ∧ 65536 ≤ a.toNat % 8 * 262144 + b.toNat % 64 * 4096 + c.toNat % 64 * 64 + d.toNat % 64 ∧
    a.toNat % 8 * 262144 + b.toNat % 64 * 4096 + c.toNat % 64 * 64 + d.toNat % 64 ≤ 1114111 := by
  have ha := a.toNat_lt
  have hb := b.toNat_lt
  have hc := c.toNat_lt
  have hd := d.toNat_lt
  unfold okL
  simp only [List.take_succ_cons, List.take_zero, numL]
  unfold putL
  obtain ⟨n, hn⟩ : ∃ n, n = 64 * (64 * (64 * (a.toNat % 8) + b.toNat % 64) + c.toNat % 64) + d.toNat % 64 := ⟨_, rfl⟩
  rw [← hn]
  by_cases hs : 1114111 < n ∨ (55296 ≤ n ∧ n ≤ 57343)
  · rw [if_pos (by omega)]
    simp
    omega
  rw [if_neg (by omega)]
  by_cases h0 : n < 128
  · rw [encodeRune, encodeRuneZ_one (by omega) (by omega)]
    simp
    omega
  by_cases h1 : n < 2048
  · rw [encodeRune, encodeRuneZ_two (by omega) (by omega)]
    simp
    omega
  by_cases h2 : n < 65536
  · rw [encodeRune, encodeRuneZ_three (by omega)]
    simp
    omega
  · rw [encodeRune, encodeRuneZ_four (by omega) (by omega)]
    simp only [List.map_cons, List.map_nil, Option.some.injEq, List.cons.injEq, and_true, u8_eq]
    omega
end
theorem decodeL_cons (a : UInt8) (t : List UInt8) : decodeL (a :: t) = decodeN (t.length + 1) a.toNat (t.getD 0 0).toNat (t.getD 1 0).toNat (t.getD 2 0).toNat := by
 rw [decodeL_N]; rfl
theorem next_of_ok {l : List UInt8} {k : Nat} (h1 : 1 ≤ k) (h4 : k ≤ 4) (hk : k ≤ l.length) (h : okL l k) : nextL l = some (numL (l.take k), k) := by
 have hk' : k = 1 ∨ k = 2 ∨ k = 3 ∨ k = 4 := by omega
 unfold nextL
 rcases hk' with rfl | rfl | rfl | rfl
 ·obtain ⟨a, t, rfl⟩ : ∃ a t, l = a :: t := by cases l with | nil => simp at hk | cons a t => exact ⟨a, t, rfl⟩
  have h := ok1.1 h
  have hd : decodeL (a :: t) = (a.toNat, 1) := by rw [decodeL_cons, decodeN, if_pos h]
  rw [hd, if_neg (by simp; omega)]
  rfl
 ·obtain ⟨a, b, t, rfl⟩ : ∃ a b t, l = a :: b :: t := by match l, hk with | a :: b :: t, _ => exact ⟨a, b, t, rfl⟩
  obtain ⟨h2, h3, h5⟩ := ok2.1 h
  have hd : decodeL (a :: b :: t) = (a.toNat % 32 * 64 + b.toNat % 64, 2) := by
   rw [decodeL_cons, decodeN, if_neg (by omega), if_pos ⟨h2, by simp, by simpa using h3⟩]
   simp only [List.getD_cons_zero]
   rw [if_pos h5]
  rw [hd, if_neg (by simp)]
  simp only [List.take_succ_cons, List.take_zero, numL]
  congr 2; omega
 ·obtain ⟨a, b, c, t, rfl⟩ : ∃ a b c t, l = a :: b :: c :: t := by match l, hk with | a :: b :: c :: t, _ => exact ⟨a, b, c, t, rfl⟩
  obtain ⟨h2, h3, h5, h6, h7⟩ := ok3.1 h
  have hd : decodeL (a :: b :: c :: t) = (a.toNat % 16 * 4096 + b.toNat % 64 * 64 + c.toNat % 64, 3) := by
   rw [decodeL_cons, decodeN, if_neg (by omega), if_neg (by omega), if_pos ⟨h2, ⟨by simp, by simpa using h3⟩, by simp, by simpa using h5⟩]
   simp only [List.getD_cons_zero, List.getD_cons_succ]
   rw [if_pos ⟨h6, by omega⟩]
  rw [hd, if_neg (by simp)]
  simp only [List.take_succ_cons, List.take_zero, numL]
  congr 2; omega
 ·obtain ⟨a, b, c, d, t, rfl⟩ : ∃ a b c d t, l = a :: b :: c :: d :: t := by match l, hk with | a :: b :: c :: d :: t, _ => exact ⟨a, b, c, d, t, rfl⟩
  obtain ⟨h2, h3, h5, h6, h7, h8⟩ := ok4.1 h
  have hd : decodeL (a :: b :: c :: d :: t) = (a.toNat % 8 * 262144 + b.toNat % 64 * 4096 + c.toNat % 64 * 64 + d.toNat % 64, 4) := by
   rw [decodeL_cons, decodeN, if_neg (by omega), if_neg (by omega), if_neg (by omega), if_pos ⟨h2, ⟨by simp, by simpa using h3⟩, ⟨by simp, by simpa using h5⟩, by simp, by simpa using h6⟩]
   simp only [List.getD_cons_zero, List.getD_cons_succ]
   rw [if_pos ⟨h7, by omega⟩]
  rw [hd, if_neg (by simp)]
  simp only [List.take_succ_cons, List.take_zero, numL]
  congr 2; omega
theorem next_none {l : List UInt8} (h : ∀ k, 1 ≤ k → k ≤ 4 → k ≤ l.length → ¬ okL l k) : nextL l = none := by
  unfold nextL
  match l, h with
  | [], _ => rw [if_pos (.inl rfl)]
  | a :: t, h =>
    rw [decodeL_cons]
    rcases decodeN_shape (t.length + 1) a.toNat (t.getD 0 0).toNat (t.getD 1 0).toNat (t.getD 2 0).toNat with ⟨c, e⟩ | ⟨c1, c2, c3, cv, e⟩ | ⟨c1, c2, c3, c4, cv, cs, e⟩ | ⟨c1, c2, c3, c4, c5, cv, cw, e⟩ | e
    · exact absurd (ok1.2 c) (h 1 (by omega) (by omega) (by simp))
    · obtain ⟨b, u, rfl⟩ : ∃ b u, t = b :: u := by cases t with | nil => simp at c2 | cons b u => exact ⟨b, u, rfl⟩
      exact absurd (ok2.2 ⟨c1, c3, cv⟩) (h 2 (by omega) (by omega) (by simp))
    · obtain ⟨b, c, u, rfl⟩ : ∃ b c u, t = b :: c :: u := by
        cases t with
        | nil => simp at c2
        | cons b u => cases u with
          | nil => simp at c2
          | cons c u => exact ⟨b, c, u, rfl⟩
      exact absurd (ok3.2 ⟨c1, c3, c4, cv, cs⟩) (h 3 (by omega) (by omega) (by simp))
    · obtain ⟨b, c, d, u, rfl⟩ : ∃ b c d u, t = b :: c :: d :: u := by
        cases t with
        | nil => simp at c2
        | cons b u => cases u with
          | nil => simp at c2
          | cons c u => cases u with
            | nil => simp at c2
            | cons d u => exact ⟨b, c, d, u, rfl⟩
      exact absurd (ok4.2 ⟨c1, c3, c4, c5, cv, cw⟩) (h 4 (by omega) (by omega) (by simp))
    · rw [e, if_pos (.inr ⟨rfl, rfl⟩)]
theorem next_some {l : List UInt8} {r n : Nat} (h : nextL l = some (r, n)) : decodeL l = (r, n) ∧ 1 ≤ n ∧ n ≤ l.length ∧ encodeRune (r : Int) = l.take n := by
 unfold nextL at h
 split at h
 ·cases h
 ·rename_i hn
  injection h with h
  have hne : l ≠ [] := fun e => hn (.inl e)
  have hv : ¬ ((decodeL l).1 = 65533 ∧ (decodeL l).2 = 1) := fun e => hn (.inr e)
  have h1 := encode_decode l hne hv
  have h2 := decodeL_le l hne
  have h3 := decodeL_width l
  rw [h] at h1 h2 h3
  exact ⟨h, h3, h2, h1⟩
theorem valid_step {l : List UInt8} (hne : l ≠ []) : validD l = match nextL l with | none => false | some (_, n) => validD (l.drop n) := by
 rw [validD_step l hne]
 unfold nextL
 by_cases h : (decodeL l).1 = 65533 ∧ (decodeL l).2 = 1
 ·rw [if_pos h, if_pos (.inr h)]
 ·rw [if_neg h, if_neg (fun e => e.elim hne h)]
end Go.Proofs.YtmkaahkbhdlniaaGreatDoor
/-
 Literals of texts and bytes, told plainly; what is written is read back. No program stands here.
-/
namespace Go.Proofs.YtmkaahkbhdlniaaGreatDoor
open Go Go.Lib

/-- A digit to the base 16. -/
def hexB (n : Nat) : UInt8 := if n < 10 then (48 + n).toUInt8 else (87 + n).toUInt8
/-- A byte in a literal. -/
def quoteB (c : UInt8) : List UInt8 :=
 if c = 34 then [92, 34] else if c = 92 then [92, 92] else if c = 8 then [92, 98] else if c = 12 then [92, 102] else if c = 10 then [92, 110] else if c = 13 then [92, 114] else if c = 9 then [92, 116]
 else if c < 32 then [92, 117, 48, 48, hexB (c.toNat / 16), hexB (c.toNat % 16)] else [c]
def quoteL (s : List UInt8) : List UInt8 := 34 :: (s.flatMap quoteB ++ [34])
/-- A digit's number. -/
def digitL (c : UInt8) : Option Nat := if 48 ≤ c.toNat ∧ c.toNat ≤ 57 then some (c.toNat - 48) else if 97 ≤ c.toNat ∧ c.toNat ≤ 102 then some (c.toNat - 87) else if 65 ≤ c.toNat ∧ c.toNat ≤ 70 then some (c.toNat - 55) else none
/-- The number of four digits. -/
def halfL (s : List UInt8) (second : Bool) : Nat × Int :=
 match s[0]? with
 | none => (0, 3)
 | some c0 => match digitL c0 with
  | none => (0, 41)
  | some d0 => if second = true ∧ d0 ≠ 13 then (0, 41) else match s[1]? with
   | none => (0, 3)
   | some c1 => match digitL c1 with
    | none => (0, 41)
    | some d1 => if second ≠ decide (220 ≤ 16 * d0 + d1 ∧ 16 * d0 + d1 ≤ 223) then (0, 41) else match s[2]? with
     | none => (0, 3)
     | some c2 => match digitL c2 with
      | none => (0, 41)
      | some d2 => match s[3]? with
       | none => (0, 3)
       | some c3 => match digitL c3 with
        | none => (0, 41)
        | some d3 => (16 * (16 * (16 * d0 + d1) + d2) + d3, 0)
/-- The byte that an escape of two bytes says. -/
def shortL (c : UInt8) : Option UInt8 :=
 if c = 34 then some 34 else if c = 92 then some 92 else if c = 47 then some 47 else if c = 98 then some 8 else if c = 102 then some 12 else if c = 110 then some 10 else if c = 114 then some 13 else if c = 116 then some 9 else none
/-- The second half of a rune of two. -/
def escT (s : List UInt8) (n : Nat) : List UInt8 × Nat × Int :=
 match s[6]? with
 | none => ([], 0, 3)
 | some c6 => if c6 ≠ 92 then ([], 0, 41) else match s[7]? with
  | none => ([], 0, 3)
  | some c7 => if c7 ≠ 117 then ([], 0, 41) else
   let k := halfL (s.drop 8) true
   if k.2 ≠ 0 then ([], 0, k.2) else (encodeRune (65536 + 1024 * ((n : Int) - 55296) + k.1 - 56320), 12, 0)
/-- What an escape says, how many bytes it has; an error. -/
def escL (s : List UInt8) : List UInt8 × Nat × Int :=
 match s[1]? with
 | none => ([], 0, 3)
 | some c => match shortL c with
  | some b => ([b], 2, 0)
  | none => if c ≠ 117 then ([], 0, 41) else
   let h := halfL (s.drop 2) false
   if h.2 ≠ 0 then ([], 0, h.2)
   else if h.1 < 55296 ∨ 56319 < h.1 then (encodeRune h.1, 6, 0)
   else escT s h.1
/-- Can more bytes make a rune's bytes of these? -/
def beginsL : List UInt8 → Bool
  | [a] => decide (194 ≤ a.toNat ∧ a.toNat ≤ 244)
  | [a, b] => decide ((a.toNat = 224 ∧ 160 ≤ b.toNat ∧ b.toNat ≤ 191) ∨ ((225 ≤ a.toNat ∧ a.toNat ≤ 236 ∨ 238 ≤ a.toNat ∧ a.toNat ≤ 239) ∧ 128 ≤ b.toNat ∧ b.toNat ≤ 191) ∨ (a.toNat = 237 ∧ 128 ≤ b.toNat ∧ b.toNat ≤ 159) ∨
      (a.toNat = 240 ∧ 144 ≤ b.toNat ∧ b.toNat ≤ 191) ∨ (241 ≤ a.toNat ∧ a.toNat ≤ 243 ∧ 128 ≤ b.toNat ∧ b.toNat ≤ 191) ∨ (a.toNat = 244 ∧ 128 ≤ b.toNat ∧ b.toNat ≤ 143))
  | [a, b, c] => decide (((a.toNat = 240 ∧ 144 ≤ b.toNat ∧ b.toNat ≤ 191) ∨ (241 ≤ a.toNat ∧ a.toNat ≤ 243 ∧ 128 ≤ b.toNat ∧ b.toNat ≤ 191) ∨ (a.toNat = 244 ∧ 128 ≤ b.toNat ∧ b.toNat ≤ 143)) ∧ 128 ≤ c.toNat ∧ c.toNat ≤ 191)
  | _ => false
/-- The rest of a literal: what has come, how many bytes were taken. -/
def unqR : Nat → List UInt8 → Nat → List UInt8 → List UInt8 × Nat × Int
 | 0, _, _, _ => ([], 0, 3)
 | f + 1, rest, i, out => match rest with
  | [] => ([], 0, 3)
  | c :: t => if c = 34 then (out, i + 1, 0) else if c < 32 then ([], 0, 41)
   else if c = 92 then (let e := escL (c :: t); if e.2.2 ≠ 0 then ([], 0, e.2.2) else unqR f ((c :: t).drop e.2.1) (i + e.2.1) (out ++ e.1))
   else match nextL (c :: t) with
    | some (_, n) => unqR f ((c :: t).drop n) (i + n) (out ++ (c :: t).take n)
    | none => ([], 0, if beginsL (c :: t) then 3 else 40)
def unqL (s : List UInt8) : List UInt8 × Nat × Int :=
 match s with
 | [] => ([], 0, 3)
 | c :: t => if c ≠ 34 then ([], 0, 41) else unqR (t.length + 1) t 1 []
/-- An escape is an error, or has bytes. -/
theorem escL_cases (s : List UInt8) : (∃ e : Int, e ≠ 0 ∧ escL s = ([], 0, e)) ∨ ∃ b n, 1 ≤ n ∧ escL s = (b, n, 0) := by
 obtain ⟨x, hx⟩ : ∃ x, x = escL s := ⟨_, rfl⟩
 rw [← hx]
 unfold escL escT at hx
 dsimp only at hx
 repeat' split at hx
 all_goals first
  | exact .inl ⟨_, by decide, hx⟩
  | exact .inr ⟨_, _, by decide, hx⟩
  | exact .inl ⟨_, by assumption, hx⟩
theorem unqR_more : ∀ {f g : Nat} {rest : List UInt8} {i : Nat} {out : List UInt8}, rest.length < f → rest.length < g → unqR f rest i out = unqR g rest i out := by
 intro f
 induction f with
 | zero => intro g rest i out h; exact absurd h (Nat.not_lt_zero _)
 | succ f ih =>
  intro g rest i out hf hg
  cases g with
  | zero => exact absurd hg (Nat.not_lt_zero _)
  | succ g =>
   cases rest with
   | nil => rfl
   | cons c t =>
    unfold unqR
    have hdrop : ∀ k, 1 ≤ k → ((c :: t).drop k).length < f ∧ ((c :: t).drop k).length < g := fun k hk => by
     rw [List.length_drop]
     simp only [List.length_cons] at hf hg ⊢
     omega
    dsimp only
    split
    ·rfl
    split
    ·rfl
    split
    ·split
     ·rfl
     ·rename_i he
      have h1 : 1 ≤ (escL (c :: t)).2.1 := by
       rcases escL_cases (c :: t) with ⟨e, h0, hx⟩ | ⟨b, n, hn, hx⟩
       ·rw [hx] at he; exact absurd h0 he
       ·rw [hx]; exact hn
      obtain ⟨a, b⟩ := hdrop _ h1
      exact ih a b
    ·cases hn : nextL (c :: t) with
     | none => rfl
     | some x =>
      obtain ⟨r, n⟩ := x
      obtain ⟨_, h1, _, _⟩ := next_some hn
      obtain ⟨a, b⟩ := hdrop _ h1
      exact ih a b
end Go.Proofs.YtmkaahkbhdlniaaGreatDoor
/-
 Cells, steps, and what an expression gives, told plainly. No program stands here.
-/
namespace Go.Proofs.YtmkaahkbhdlniaaGreatDoor
open Go Go.Lib

structure TypeM where
 kind : Int
 null : Bool
structure CellM where
 null : Bool
 n : Int
 s : List UInt8
structure ColM where
 id : Int
 name : List UInt8
 type : TypeM
 dflt : CellM
structure StepM where
 kind : Int
 n : Int
 s : List UInt8
theorem TypeM.ext' {a b : TypeM} (h1 : a.kind = b.kind) (h2 : a.null = b.null) : a = b := by cases a; cases b; simp_all
theorem CellM.ext' {a b : CellM} (h1 : a.null = b.null) (h2 : a.n = b.n) (h3 : a.s = b.s) : a = b := by cases a; cases b; simp_all
theorem StepM.ext' {a b : StepM} (h1 : a.kind = b.kind) (h2 : a.n = b.n) (h3 : a.s = b.s) : a = b := by cases a; cases b; simp_all
theorem ColM.ext' {a b : ColM} (h1 : a.id = b.id) (h2 : a.name = b.name) (h3 : a.type = b.type) (h4 : a.dflt = b.dflt) : a = b := by cases a; cases b; simp_all
instance : DecidableEq TypeM := fun a b => decidable_of_iff (a.kind = b.kind ∧ a.null = b.null) ⟨fun h => TypeM.ext' h.1 h.2, fun h => by subst h; exact ⟨rfl, rfl⟩⟩
instance : DecidableEq CellM := fun a b => decidable_of_iff (a.null = b.null ∧ a.n = b.n ∧ a.s = b.s) ⟨fun h => CellM.ext' h.1 h.2.1 h.2.2, fun h => by subst h; exact ⟨rfl, rfl, rfl⟩⟩
instance : DecidableEq StepM := fun a b => decidable_of_iff (a.kind = b.kind ∧ a.n = b.n ∧ a.s = b.s) ⟨fun h => StepM.ext' h.1 h.2.1 h.2.2, fun h => by subst h; exact ⟨rfl, rfl, rfl⟩⟩
instance : DecidableEq ColM := fun a b => decidable_of_iff (a.id = b.id ∧ a.name = b.name ∧ a.type = b.type ∧ a.dflt = b.dflt) ⟨fun h => ColM.ext' h.1 h.2.1 h.2.2.1 h.2.2.2, fun h => by subst h; exact ⟨rfl, rfl, rfl, rfl⟩⟩
def cell0 : CellM := ⟨false, 0, []⟩
def cellNull : CellM := ⟨true, 0, []⟩
def type0 : TypeM := ⟨0, false⟩
/-- May a type be? -/
def mayT (t : TypeM) : Bool := decide (1 ≤ t.kind ∧ t.kind ≤ 5)
/-- Is a cell that is not nothing of a kind? -/
def isC (kind : Int) (c : CellM) : Bool :=
 if kind = 1 then decide (c.s = [] ∧ 0 ≤ c.n ∧ c.n ≤ 1)
 else if kind = 2 then decide (c.s = [] ∧ -2147483648 ≤ c.n ∧ c.n ≤ 2147483647)
 else if kind = 3 then decide (c.s = [])
 else if kind = 4 then decide (c.n = 0 ∧ c.s.length ≤ 1024 ∧ validD c.s = true)
 else decide (c.n = 0 ∧ c.s.length ≤ 1024)
def checkC (t : TypeM) (c : CellM) : Int :=
 if mayT t = false then 2 else if c.null = true then (if t.null = true ∧ c = cellNull then 0 else 90) else if isC t.kind c = true then 0 else 90
/-- May a step be? -/
def mayS (x : StepM) : Bool :=
 if x.kind = 1 then decide (x.s = [] ∧ 1 ≤ x.n ∧ x.n ≤ 1048576)
 else if x.kind = 2 then decide (x.s = [])
 else if x.kind = 3 then decide (x.s = [] ∧ 0 ≤ x.n ∧ x.n ≤ 1)
 else if x.kind = 4 then decide (x.n = 0 ∧ x.s.length ≤ 1024 ∧ validD x.s = true)
 else if x.kind = 5 then decide (x.n = 0 ∧ x.s.length ≤ 1024)
 else if x.kind = 6 then decide (x.s = [] ∧ (x.n = 1 ∨ (3 ≤ x.n ∧ x.n ≤ 5)))
 else decide (7 ≤ x.kind ∧ x.kind ≤ 18 ∧ x.n = 0 ∧ x.s = [])
/-- How many values a step takes. -/
def takesS (kind : Int) : Nat := if kind < 7 then 0 else if kind = 10 ∨ kind = 15 ∨ kind = 16 ∨ kind = 18 then 1 else 2
/-- The place of the first column of an id. -/
def findC (cols : List ColM) (id : Int) : Option Nat := cols.findIdx? fun c => decide (c.id = id)
/-- The type of what a step puts that takes nothing. -/
def leafT (cols : List ColM) (x : StepM) : Option TypeM :=
 if x.kind = 1 then (match findC cols x.n with
  | none => none
  | some i => let t := (cols.getD i ⟨0, [], type0, cell0⟩).type
   if mayT t = false then none else some (if t.kind = 2 then ⟨3, t.null⟩ else t))
 else if x.kind = 2 then some ⟨3, false⟩
 else if x.kind = 3 then some ⟨1, false⟩
 else if x.kind = 4 then some ⟨4, false⟩
 else if x.kind = 5 then some ⟨5, false⟩
 else some ⟨x.n, true⟩
/-- The type of what a step makes of two; of one: both are that one. -/
def madeT (kind : Int) (a b : TypeM) : Option TypeM :=
 if kind = 7 ∨ kind = 8 ∨ kind = 9 ∨ kind = 10 then (if a.kind = 3 ∧ b.kind = 3 then some ⟨3, a.null || b.null⟩ else none)
 else if kind = 11 ∨ kind = 12 then (if a.kind = b.kind then some ⟨1, a.null || b.null⟩ else none)
 else if kind = 13 ∨ kind = 14 ∨ kind = 15 then (if a.kind = 1 ∧ b.kind = 1 then some ⟨1, a.null || b.null⟩ else none)
 else if kind = 16 then some ⟨1, false⟩
 else if kind = 17 then (if a.kind = b.kind then some ⟨a.kind, a.null && b.null⟩ else none)
 else (if a.kind = 4 ∨ a.kind = 5 then some ⟨3, a.null || b.null⟩ else none)
/-- The stack behind a step; the last one lies on top. -/
def stepT (cols : List ColM) (st : List TypeM) (x : StepM) : Option (List TypeM) :=
 let k := takesS x.kind
 if mayS x = false ∨ st.length < k then none
 else (if k = 0 then leafT cols x else madeT x.kind (st.getD (st.length - k) type0) (st.getD (st.length - 1) type0)).map fun t => st.take (st.length - k) ++ [t]
def runT (cols : List ColM) : List TypeM → List StepM → Option (List TypeM)
 | st, [] => some st
 | st, x :: l => (stepT cols st x).bind fun st => runT cols st l
/-- The type of what an expression gives. -/
def typeS (cols : List ColM) (l : List StepM) : TypeM × Int :=
 if 64 < l.length then (type0, 5) else match runT cols [] l with
  | some [t] => (t, 0)
  | _ => (type0, 220)
def flagC (b : Bool) : CellM := if b then ⟨false, 1, []⟩ else cell0
def fitsI (n : Int) : Bool := decide (-9223372036854775808 ≤ n ∧ n ≤ 9223372036854775807)
def cmpC (a b : CellM) : Int :=
 if a.null = b.null then (if a.n < b.n then -1 else if b.n < a.n then 1 else compareBytes a.s b.s) else if a.null = true then -1 else 1
/-- What and, or, not make. -/
def logicC (kind : Int) (a b : CellM) : CellM :=
 if kind = 13 ∧ (a = flagC false ∨ b = flagC false) then flagC false
 else if kind = 14 ∧ (a = flagC true ∨ b = flagC true) then flagC true
 else if a = cellNull ∨ b = cellNull then cellNull
 else if kind = 15 then flagC (decide (a = flagC false))
 else flagC (decide (kind = 13))
/-- What a step makes of two cells; of one: both are that one. -/
def madeC (kind : Int) (a b : CellM) : Option CellM :=
 if kind = 13 ∨ kind = 14 ∨ kind = 15 then some (logicC kind a b)
 else if kind = 16 then some (flagC a.null)
 else if kind = 17 then some (if a.null then b else a)
 else if a.null = true ∨ b.null = true then some cellNull
 else if kind = 11 then some (flagC (decide (cmpC a b = 0)))
 else if kind = 12 then some (flagC (decide (cmpC a b < 0)))
 else if kind = 18 then some ⟨false, a.s.length, []⟩
 else let n := if kind = 7 then a.n + b.n else if kind = 8 then a.n - b.n else if kind = 9 then a.n * b.n else -a.n
  if fitsI n = true then some ⟨false, n, []⟩ else none
def rowCheck (cols : List ColM) (r : List CellM) : Int :=
 if cols.length ≠ r.length then 100 else ((cols.zip r).map fun p => checkC p.1.type p.2).find? (fun e => decide (e ≠ 0)) |>.getD 0
/-- The cells behind a step. -/
def stepE (cols : List ColM) (r : List CellM) (st : List CellM) (x : StepM) : Option (List CellM) :=
  let k := takesS x.kind
  (if k = 0 then some (if x.kind = 1 then r.getD ((findC cols x.n).getD 0) cell0 else if x.kind = 6 then cellNull else ⟨false, x.n, x.s⟩)
   else madeC x.kind (st.getD (st.length - k) cell0) (st.getD (st.length - 1) cell0)).map fun c => st.take (st.length - k) ++ [c]
def runE (cols : List ColM) (r : List CellM) : List CellM → List StepM → Option (List CellM)
 | st, [] => some st
 | st, x :: l => (stepE cols r st x).bind fun st => runE cols r st l
/-- What an expression gives in a row. -/
def evalS (cols : List ColM) (l : List StepM) (r : List CellM) : CellM × Int :=
 if (typeS cols l).2 ≠ 0 then (cell0, (typeS cols l).2) else if rowCheck cols r ≠ 0 then (cell0, rowCheck cols r)
 else match runE cols r [] l with
  | none => (cell0, 50)
  | some st => (st.getD 0 cell0, 0)
/-- A number into a rising row, if it is not there. -/
def insertI (k : Int) : List Int → List Int
 | [] => [k]
 | x :: l => if x < k then x :: insertI k l else if x = k then x :: l else k :: x :: l
def usesS (l : List StepM) : List Int := (l.filter fun x => decide (x.kind = 1)).foldl (fun a x => insertI x.n a) []
/-! Words. -/
def nullW (k : Int) : List UInt8 := if k = 1 then [110, 117, 108, 108, 58, 98, 111, 111, 108] else if k = 3 then [110, 117, 108, 108, 58, 105, 110, 116, 54, 52] else if k = 4 then [110, 117, 108, 108, 58, 115, 116, 114, 105, 110, 103] else if k = 5 then [110, 117, 108, 108, 58, 98, 121, 116, 101, 115] else []
def signsW : List (List UInt8) := [[43], [45], [42], [110, 101, 103], [61], [60], [97, 110, 100], [111, 114], [110, 111, 116], [105, 115, 110, 117, 108, 108], [101, 108, 115, 101], [108, 101, 110]]
def hexL (s : List UInt8) : List UInt8 := s.flatMap fun c => [hexB (c.toNat / 16), hexB (c.toNat % 16)]
/-- A text's literal, without blanks. -/
def textW (s : List UInt8) : List UInt8 := (quoteL s).flatMap fun c => if c = 32 then [92, 117, 48, 48, 50, 48] else [c]
/-- The word of a step that may be. -/
def wordS (x : StepM) : List UInt8 :=
 if x.kind = 1 then 35 :: itoa x.n
 else if x.kind = 2 then itoa x.n
 else if x.kind = 3 then (if x.n = 1 then [116, 114, 117, 101] else [102, 97, 108, 115, 101])
 else if x.kind = 4 then textW x.s
 else if x.kind = 5 then 120 :: hexL x.s
 else if x.kind = 6 then nullW x.n
 else signsW.getD (x.kind - 7).toNat []
def joinW (sep : UInt8) : List (List UInt8) → List UInt8
 | [] => []
 | [w] => w
 | w :: l => w ++ sep :: joinW sep l
/-- An expression as words. -/
def textS (l : List StepM) : List UInt8 × Int :=
 if 64 < l.length then ([], 5) else if (l.all mayS) = false then ([], 2) else (joinW 32 (l.map wordS), 0)
end Go.Proofs.YtmkaahkbhdlniaaGreatDoor
/-
 What is written as a literal is read back. No program stands here.
-/
namespace Go.Proofs.YtmkaahkbhdlniaaGreatDoor
open Go Go.Lib

theorem next_ok {l : List UInt8} {r n : Nat} (h : nextL l = some (r, n)) : 1 ≤ n ∧ n ≤ 4 ∧ n ≤ l.length ∧ okL l n ∧ r = numL (l.take n) := by
 by_cases hk : ∃ k, 1 ≤ k ∧ k ≤ 4 ∧ k ≤ l.length ∧ okL l k
 ·obtain ⟨k, h1, h4, hl, hok⟩ := hk
  rw [next_of_ok h1 h4 hl hok] at h
  injection h with h
  injection h with h2 h3
  subst h3
  exact ⟨h1, h4, hl, hok, h2.symm⟩
 ·rw [next_none fun k h1 h4 hl hok => hk ⟨k, h1, h4, hl, hok⟩] at h
  cases h
theorem next_app {l : List UInt8} {r n : Nat} (h : nextL l = some (r, n)) (t : List UInt8) : nextL (l.take n ++ t) = some (r, n) := by
 obtain ⟨h1, h4, hl, hok, hr⟩ := next_ok h
 have e : (l.take n ++ t).take n = l.take n := by
  rw [List.take_append_of_le_length (by rw [List.length_take]; omega), List.take_take, Nat.min_self]
 have hok' : okL (l.take n ++ t) n := by unfold okL at hok ⊢; rw [e]; exact hok
 rw [next_of_ok h1 h4 (by rw [List.length_append, List.length_take]; omega) hok', e, hr]
theorem next_ascii {c : UInt8} {t : List UInt8} (h : c.toNat < 128) : nextL (c :: t) = some (c.toNat, 1) := by
 have := next_of_ok (l := c :: t) (k := 1) (by omega) (by omega) (by simp) (ok1.2 h)
 simpa [numL] using this
/-- A rune of several bytes has none below 128. -/
theorem next_high {l : List UInt8} {r n : Nat} (h : nextL l = some (r, n)) (hn : n ≠ 1) : ∀ c ∈ l.take n, 128 ≤ c.toNat := by
 obtain ⟨h1, h4, hl, hok, _⟩ := next_ok h
 have hn' : n = 2 ∨ n = 3 ∨ n = 4 := by omega
 rcases hn' with rfl | rfl | rfl
 ·obtain ⟨a, b, t, rfl⟩ : ∃ a b t, l = a :: b :: t := by match l, hl with | a :: b :: t, _ => exact ⟨a, b, t, rfl⟩
  obtain ⟨h2, h3, _⟩ := ok2.1 hok
  intro c hc
  simp at hc
  rcases hc with rfl | rfl <;> omega
 ·obtain ⟨a, b, c, t, rfl⟩ : ∃ a b c t, l = a :: b :: c :: t := by match l, hl with | a :: b :: c :: t, _ => exact ⟨a, b, c, t, rfl⟩
  obtain ⟨h2, h3, h5, _⟩ := ok3.1 hok
  intro x hc
  simp at hc
  rcases hc with rfl | rfl | rfl <;> omega
 ·obtain ⟨a, b, c, d, t, rfl⟩ : ∃ a b c d t, l = a :: b :: c :: d :: t := by match l, hl with | a :: b :: c :: d :: t, _ => exact ⟨a, b, c, d, t, rfl⟩
  obtain ⟨h2, h3, h5, h6, _⟩ := ok4.1 hok
  intro x hc
  simp at hc
  rcases hc with rfl | rfl | rfl | rfl <;> omega
theorem next_one {l : List UInt8} {r : Nat} (h : nextL l = some (r, 1)) : ∃ c t, l = c :: t ∧ c.toNat < 128 := by
 obtain ⟨h1, h4, hl, hok, _⟩ := next_ok h
 cases l with
 | nil => simp at hl
 | cons c t => exact ⟨c, t, rfl, ok1.1 hok⟩
/-- Runes, one behind the other. -/
theorem valid_ind {p : List UInt8 → Prop} (h0 : p []) (h1 : ∀ c t, c.toNat < 128 → validD t = true → p t → p (c :: t))
    (h2 : ∀ l r n, nextL l = some (r, n) → n ≠ 1 → validD (l.drop n) = true → p (l.drop n) → p l) : ∀ {l : List UInt8}, validD l = true → p l := by
  intro l
  induction hk : l.length using Nat.strongRecOn generalizing l with
  | _ k ih =>
    intro hv
    cases l with
    | nil => exact h0
    | cons a u =>
      rw [valid_step (by simp)] at hv
      cases hn : nextL (a :: u) with
      | none => rw [hn] at hv; cases hv
      | some x =>
        obtain ⟨r, n⟩ := x
        rw [hn] at hv
        dsimp only at hv
        obtain ⟨k1, _, k3, _, _⟩ := next_ok hn
        have hrec := ih ((a :: u).drop n).length (by rw [List.length_drop, ← hk]; simp only [List.length_cons] at k3 ⊢; omega) rfl hv
        by_cases he : n = 1
        · subst he
          obtain ⟨c, t, e, hc⟩ := next_one hn
          injection e with e1 e2
          subst e1; subst e2
          exact h1 a u hc hv hrec
        · exact h2 _ r n hn he hv hrec
/-- A byte in a literal without blanks. -/
def quoteC (c : UInt8) : List UInt8 := if c = 32 then [92, 117, 48, 48, 50, 48] else quoteB c
theorem quoteB_high {c : UInt8} (h : 128 ≤ c.toNat) : quoteB c = [c] := by
 unfold quoteB
 have e : ∀ k : UInt8, k.toNat < 128 → c ≠ k := fun k hk e => by subst e; omega
 rw [if_neg (e _ (by decide)), if_neg (e _ (by decide)), if_neg (e _ (by decide)), if_neg (e _ (by decide)), if_neg (e _ (by decide)), if_neg (e _ (by decide)), if_neg (e _ (by decide)), if_neg (fun h2 => by have := UInt8.lt_iff_toNat_lt.1 h2; simp at this; omega)]
theorem quoteC_high {c : UInt8} (h : 128 ≤ c.toNat) : quoteC c = [c] := by
 unfold quoteC
 rw [if_neg (fun e => by subst e; simp at h), quoteB_high h]
theorem hexB_ne {n : Nat} (h : n < 16) : hexB n ≠ 32 := by
 have : ∀ n : Fin 16, hexB n.val ≠ 32 := by decide
 exact this ⟨n, h⟩
theorem quoteB_flat (c : UInt8) : (quoteB c).flatMap (fun c => if c = 32 then [92, 117, 48, 48, 50, 48] else [c]) = quoteC c := by
 unfold quoteC
 by_cases h : c = 32
 ·subst h; rfl
 rw [if_neg h]
 have h1 : hexB (c.toNat / 16) ≠ 32 := hexB_ne (by have := c.toNat_lt; omega)
 have h2 : hexB (c.toNat % 16) ≠ 32 := hexB_ne (by omega)
 unfold quoteB
 repeat' split
 all_goals simp_all
theorem textW_eq (s : List UInt8) : textW s = 34 :: (s.flatMap quoteC ++ [34]) := by
 unfold textW quoteL
 rw [List.flatMap_cons, List.flatMap_append, List.flatMap_assoc]
 have e : (fun c => (quoteB c).flatMap (fun c => if c = 32 then [92, 117, 48, 48, 50, 48] else [c])) = quoteC := funext quoteB_flat
 rw [e]
 rfl
theorem digit_hex {d : Nat} (h : d < 16) : digitL (hexB d) = some d := by
 have : ∀ d : Fin 16, digitL (hexB d.val) = some d.val := by decide
 exact this ⟨d, h⟩
theorem half_low {a b : Nat} {t : List UInt8} (ha : a < 16) (hb : b < 16) : halfL (48 :: 48 :: hexB a :: hexB b :: t) false = (16 * a + b, 0) := by
 have e : digitL 48 = some 0 := rfl
 unfold halfL
 simp [e, digit_hex ha, digit_hex hb]
theorem enc_low {c : UInt8} (h : c.toNat < 128) : encodeRune (c.toNat : Int) = [c] := by
 rw [encodeRune, encodeRuneZ_one (by omega) (by omega)]
 simp
theorem esc_low {c : UInt8} {t : List UInt8} (h : c.toNat < 128) : escL (92 :: 117 :: 48 :: 48 :: hexB (c.toNat / 16) :: hexB (c.toNat % 16) :: t) = ([c], 6, 0) := by
 have hh := half_low (t := t) (show c.toNat / 16 < 16 by omega) (show c.toNat % 16 < 16 by omega)
 have e2 : 16 * (c.toNat / 16) + c.toNat % 16 = c.toNat := by omega
 rw [e2] at hh
 have e3 : shortL 117 = none := rfl
 unfold escL
 simp only [List.getElem?_cons_succ, List.getElem?_cons_zero, e3, List.drop_succ_cons, List.drop_zero, hh]
 simp only [ne_eq, not_true_eq_false, if_false]
 rw [if_pos (.inl (by omega)), enc_low h]
/-- One byte below 128 of a literal is read back. -/
theorem unq_byte {c : UInt8} (h : c.toNat < 128) (f i : Nat) (u out : List UInt8) : unqR (f + 1) (quoteC c ++ u) i out = unqR f u (i + (quoteC c).length) (out ++ [c]) := by
 have key : ∀ x b : UInt8, shortL x = some b → unqR (f + 1) (92 :: x :: u) i out = unqR f u (i + 2) (out ++ [b]) := by
  intro x b hx
  have e : escL (92 :: x :: u) = ([b], 2, 0) := by
   unfold escL
   simp only [List.getElem?_cons_succ, List.getElem?_cons_zero, hx]
  rw [unqR]
  simp only [e]
  simp
 have key2 : unqR (f + 1) (92 :: 117 :: 48 :: 48 :: hexB (c.toNat / 16) :: hexB (c.toNat % 16) :: u) i out = unqR f u (i + 6) (out ++ [c]) := by
  rw [unqR]
  simp only [esc_low h]
  simp
 unfold quoteC
 by_cases h0 : c = 32
 ·subst h0; rw [if_pos rfl]; exact key2
 rw [if_neg h0]
 unfold quoteB
 by_cases h1 : c = 34
 ·subst h1; exact key 34 34 rfl
 rw [if_neg h1]
 by_cases h2 : c = 92
 ·subst h2; exact key 92 92 rfl
 rw [if_neg h2]
 by_cases h3 : c = 8
 ·subst h3; exact key 98 8 rfl
 rw [if_neg h3]
 by_cases h4 : c = 12
 ·subst h4; exact key 102 12 rfl
 rw [if_neg h4]
 by_cases h5 : c = 10
 ·subst h5; exact key 110 10 rfl
 rw [if_neg h5]
 by_cases h6 : c = 13
 ·subst h6; exact key 114 13 rfl
 rw [if_neg h6]
 by_cases h7 : c = 9
 ·subst h7; exact key 116 9 rfl
 rw [if_neg h7]
 by_cases h8 : c < 32
 ·rw [if_pos h8]; exact key2
 rw [if_neg h8]
 show unqR (f + 1) (c :: u) i out = _
 rw [unqR]
 simp only [h1, h8, h2, if_false, next_ascii h]
 simp
theorem flat_high {l : List UInt8} (h : ∀ c ∈ l, 128 ≤ c.toNat) : l.flatMap quoteC = l := by
 induction l with
 | nil => rfl
 | cons c l ih =>
  rw [List.flatMap_cons, quoteC_high (h c List.mem_cons_self), ih fun x hx => h x (List.mem_cons_of_mem _ hx)]
  rfl
theorem unq_back {s : List UInt8} (hv : validD s = true) : ∀ (f i : Nat) (u out : List UInt8), (s.flatMap quoteC ++ 34 :: u).length ≤ f → unqR f (s.flatMap quoteC ++ 34 :: u) i out = (out ++ s, i + (s.flatMap quoteC).length + 1, 0) := by
 refine valid_ind (p := fun s => ∀ (f i : Nat) (u out : List UInt8), (s.flatMap quoteC ++ 34 :: u).length ≤ f → unqR f (s.flatMap quoteC ++ 34 :: u) i out = (out ++ s, i + (s.flatMap quoteC).length + 1, 0)) ?_ ?_ ?_ hv
 ·intro f i u out hf
  cases f with
  | zero => simp at hf
  | succ f => rw [List.flatMap_nil, List.nil_append, unqR]; simp
 ·intro c t hc _ ih f i u out hf
  have hq : 1 ≤ (quoteC c).length := by
   unfold quoteC quoteB
   repeat' split
   all_goals simp
  rw [List.flatMap_cons, List.append_assoc] at hf ⊢
  rw [List.length_append] at hf
  cases f with
  | zero => omega
  | succ f =>
   rw [unq_byte hc, ih f _ u _ (by omega), List.append_assoc, List.length_append]
   simp only [List.cons_append, List.nil_append, Prod.mk.injEq, and_true, true_and]
   omega
 ·intro l r n hn h1 _ ih f i u out hf
  obtain ⟨k1, _, k3, _, _⟩ := next_ok hn
  have hh := next_high hn h1
  have e : l.flatMap quoteC = l.take n ++ (l.drop n).flatMap quoteC := by
   conv => lhs; rw [← List.take_append_drop n l]
   rw [List.flatMap_append, flat_high hh]
  rw [e, List.append_assoc] at hf ⊢
  rw [List.length_append, List.length_take] at hf
  cases f with
  | zero => omega
  | succ f =>
   have ha := next_app hn ((l.drop n).flatMap quoteC ++ 34 :: u)
   obtain ⟨c, t, ect⟩ : ∃ c t, l.take n ++ ((l.drop n).flatMap quoteC ++ 34 :: u) = c :: t := by
    cases h0 : l.take n ++ ((l.drop n).flatMap quoteC ++ 34 :: u) with
    | nil => simp at h0
    | cons c t => exact ⟨c, t, rfl⟩
   have hc : 128 ≤ c.toNat := by
    refine hh c ?_
    cases ht : l.take n with
    | nil => rw [List.take_eq_nil_iff] at ht; rcases ht with rfl | rfl <;> simp at k1 k3; omega
    | cons a b => rw [ht] at ect; injection ect with e1 _; rw [e1]; exact List.mem_cons_self
   have e2 : ∀ k : UInt8, k.toNat < 128 → c ≠ k := fun k hk e => by subst e; omega
   have hd : (c :: t).drop n = (l.drop n).flatMap quoteC ++ 34 :: u := by rw [← ect, List.drop_append_of_le_length (by rw [List.length_take]; omega), List.drop_take, Nat.sub_self, List.take_zero, List.nil_append]
   have ht : (c :: t).take n = l.take n := by rw [← ect, List.take_append_of_le_length (by rw [List.length_take]; omega), List.take_take, Nat.min_self]
   rw [ect] at ha ⊢
   rw [unqR]
   dsimp only
   rw [if_neg (e2 _ (by decide)), if_neg (fun h2 => by have := UInt8.lt_iff_toNat_lt.1 h2; simp at this; omega), if_neg (e2 _ (by decide)), ha]
   dsimp only
   rw [hd, ht, ih f _ u _ (by omega), List.append_assoc, List.take_append_drop, List.length_append, List.length_take]
   simp only [Prod.mk.injEq, and_true, true_and]
   omega
theorem unq_text {s : List UInt8} (hv : validD s = true) : unqL (textW s) = (s, (textW s).length, 0) := by
 rw [textW_eq]
 unfold unqL
 dsimp only
 rw [if_neg (by simp), unq_back hv _ _ [] [] (by omega)]
 simp
 omega
end Go.Proofs.YtmkaahkbhdlniaaGreatDoor
/-
 Words are read back as the steps that wrote them; both ways to read a word say the same. No program stands here.
-/
namespace Go.Proofs.YtmkaahkbhdlniaaGreatDoor
open Go Go.Lib

/-! Numbers. -/
def isDig (c : UInt8) : Bool := decide (48 ≤ c.toNat ∧ c.toNat ≤ 57)
def digitsD : List UInt8 → Nat → Option Nat
 | [], acc => some acc
 | c :: r, acc => if isDig c = true then digitsD r (10 * acc + (c.toNat - 48)) else none
theorem digitsD_app : ∀ (l m : List UInt8) (acc : Nat), digitsD (l ++ m) acc = (digitsD l acc).bind fun a => digitsD m a
 | [], _, _ => rfl
 | c :: l, m, acc => by
  simp only [List.cons_append, digitsD]
  split
  ·exact digitsD_app l m _
  ·rfl
theorem dig_ofNat {d : Nat} (h : d < 10) : (UInt8.ofNat (48 + d)).toNat = 48 + d := by
 simp
 omega
theorem digitsD_dec (u : Nat) : digitsD (decDigits u) 0 = some u := by
 induction u using Nat.strongRecOn with
 | _ u ih =>
  rw [decDigits]
  split
  ·rename_i h
   have e := dig_ofNat h
   simp only [digitsD, isDig, e]
   rw [if_pos (by simp; omega)]
   congr 1; omega
  ·rename_i h
   rw [digitsD_app, ih (u / 10) (by omega)]
   have e := dig_ofNat (show u % 10 < 10 by omega)
   simp only [Option.bind_some, digitsD, isDig, e]
   rw [if_pos (by simp; omega)]
   congr 1; omega
theorem decDigits_ne (u : Nat) : decDigits u ≠ [] := by
 rw [decDigits]
 split <;> simp
theorem decDigits_dig (u : Nat) : ∀ c ∈ decDigits u, isDig c = true := by
 induction u using Nat.strongRecOn with
 | _ u ih =>
  rw [decDigits]
  split
  ·rename_i h
   intro c hc
   simp only [List.mem_singleton] at hc
   subst hc
   unfold isDig
   rw [dig_ofNat h]; simp; omega
  ·rename_i h
   intro c hc
   rcases List.mem_append.1 hc with hc | hc
   ·exact ih (u / 10) (by omega) c hc
   ·simp only [List.mem_singleton] at hc
    subst hc
    unfold isDig
    rw [dig_ofNat (show u % 10 < 10 by omega)]; simp; omega
theorem decDigits_len : ∀ (k u : Nat), u < 10 ^ (k + 1) → (decDigits u).length ≤ k + 1
 | 0, u, h => by rw [decDigits, dif_pos (by simpa using h)]; simp
 | k + 1, u, h => by
  rw [decDigits]
  split
  ·simp
  ·have := decDigits_len k (u / 10) (by rw [Nat.pow_succ] at h; omega)
   rw [List.length_append, List.length_singleton]; omega
theorem digitsD_le : ∀ (l : List UInt8) (acc n : Nat), digitsD l acc = some n → acc ≤ n
 | [], acc, n, h => by simp [digitsD] at h; omega
 | c :: r, acc, n, h => by
  simp only [digitsD] at h
  split at h
  ·have := digitsD_le r _ n h; omega
  ·cases h
theorem parse_digits : ∀ (l : List UInt8) (acc n : Nat), digitsD l acc = some n → n < 18446744073709551616 → parseUint10 acc l = .ok n
 | [], acc, n, h, _ => by simp [digitsD] at h; simp [parseUint10, h]
 | c :: r, acc, n, h, hn => by
  simp only [digitsD] at h
  split at h
  ·rename_i hc
   have hle := digitsD_le r _ n h
   have hc' : 48 ≤ c.toNat ∧ c.toNat ≤ 57 := by simpa [isDig] using hc
   rw [parseUint10, if_pos hc', if_neg (by omega), if_neg (by omega)]
   rw [Nat.mul_comm] at h
   exact parse_digits r _ n h hn
  ·cases h
/-- The number that ParseInt hands back. -/
def parseN (w : List UInt8) : Int := match parseIntB 64 w with
 | .ok v => v
 | .range => intSat 64 w
 | _ => 0
theorem head_digit {u : Nat} : ∃ c r, decDigits u = c :: r ∧ isDig c = true := by
 cases h : decDigits u with
 | nil => exact absurd h (decDigits_ne u)
 | cons c r => exact ⟨c, r, rfl, decDigits_dig u c (by rw [h]; exact List.mem_cons_self)⟩
theorem parse_dec {u : Nat} (h : u < 18446744073709551616) : parseUintB 64 (decDigits u) = .ok u := by
 rw [parseUintB_64, parseMag, if_neg (decDigits_ne u), parse_digits _ 0 u (digitsD_dec u) h]
theorem parseN_itoa {n : Int} (h0 : -9223372036854775808 ≤ n) (h1 : n ≤ 9223372036854775807) : parseN (itoa n) = n := by
 by_cases hn : n < 0
 ·have e : itoa n = 45 :: decDigits n.natAbs := if_pos hn
  unfold parseN
  rw [e, parseIntB_minus, parse_dec (by omega)]
  simp only [signedC]
  rw [if_neg (by simp; omega)]
  simp only
  omega
 ·have e0 : itoa n = decDigits n.toNat := if_neg hn
  obtain ⟨c, r, e, hc⟩ := head_digit (u := n.toNat)
  have hc' : 48 ≤ c.toNat ∧ c.toNat ≤ 57 := by simpa [isDig] using hc
  have hp := parse_dec (u := n.toNat) (by omega)
  unfold parseN
  rw [e0]
  rw [e] at hp ⊢
  rw [parseIntB_plain _ _ _ (by omega) (by omega), hp]
  simp only [signlessC]
  rw [if_neg (by simp; omega)]
  simp only
  omega
/-! Bytes. -/
def hexD (c : UInt8) : Option Nat := if 48 ≤ c.toNat ∧ c.toNat ≤ 57 then some (c.toNat - 48) else if 97 ≤ c.toNat ∧ c.toNat ≤ 102 then some (c.toNat - 87) else none
/-- The program's way: pairs, what is no digit is 0. -/
def pairsL : List UInt8 → List UInt8
 | a :: b :: t => ((hexD a).getD 0 * 16 + (hexD b).getD 0).toUInt8 :: pairsL t
 | _ => []
theorem hexD_hex {d : Nat} (h : d < 16) : hexD (hexB d) = some d := by
 have : ∀ d : Fin 16, hexD (hexB d.val) = some d.val := by decide
 exact this ⟨d, h⟩
theorem byte_pair (c : UInt8) : (c.toNat / 16 * 16 + c.toNat % 16).toUInt8 = c := by
 rw [u8_eq]
 have := c.toNat_lt
 omega
theorem pairs_hex : ∀ s : List UInt8, pairsL (hexL s) = s
 | [] => rfl
 | c :: s => by
  have := c.toNat_lt
  show pairsL (hexB (c.toNat / 16) :: hexB (c.toNat % 16) :: hexL s) = _
  rw [pairsL, hexD_hex (by omega), hexD_hex (by omega), pairs_hex s]
  simp only [Option.getD_some, byte_pair]
/-! Words. -/
def trueW : List UInt8 := [116, 114, 117, 101]
def falseW : List UInt8 := [102, 97, 108, 115, 101]
/-- The bytes that the program reads. -/
def readX (w : List UInt8) : List UInt8 := let s := pairsL (w.drop 1); if 120 :: hexL s = w ∧ s.length ≤ 1024 then s else []
/-- The step that the program takes a word for. -/
def meantS (w : List UInt8) : StepM :=
 match signsW.findIdx? (fun x => decide (x = w)) with
 | some i => ⟨7 + i, 0, []⟩
 | none => match [1, 3, 4, 5].find? (fun k : Int => decide (nullW k = w)) with
  | some k => ⟨6, k, []⟩
  | none => if w = trueW then ⟨3, 1, []⟩ else if w = falseW then ⟨3, 0, []⟩
   else if w.head? = some 35 then ⟨1, parseN (w.drop 1), []⟩
   else if w.head? = some 34 then ⟨4, 0, (unqL w).1⟩
   else if w.head? = some 120 then ⟨5, 0, readX w⟩
   else ⟨2, parseN w, []⟩
theorem signs_head : ∀ x ∈ signsW, ∃ c r, x = c :: r ∧ c ≠ 35 ∧ c ≠ 34 ∧ c ≠ 120 ∧ ¬ (48 ≤ c.toNat ∧ c.toNat ≤ 57) ∧ (c = 45 → r = []) := by
 intro x hx
 simp only [signsW, List.mem_cons, List.not_mem_nil, or_false] at hx
 rcases hx with rfl | rfl | rfl | rfl | rfl | rfl | rfl | rfl | rfl | rfl | rfl | rfl <;> exact ⟨_, _, rfl, by decide, by decide, by decide, by decide, by decide⟩
theorem no_sign {c : UInt8} {r : List UInt8} (h : c = 35 ∨ c = 34 ∨ c = 120 ∨ (48 ≤ c.toNat ∧ c.toNat ≤ 57) ∨ (c = 45 ∧ r ≠ [])) : signsW.findIdx? (fun x => decide (x = c :: r)) = none := by
 rw [List.findIdx?_eq_none_iff]
 intro x hx
 obtain ⟨c', r', rfl, h1, h2, h3, h4, h5⟩ := signs_head x hx
 simp only [List.cons.injEq, decide_eq_false_iff_not, not_and]
 rintro rfl rfl
 rcases h with h | h | h | h | ⟨h, h6⟩
 ·exact h1 h
 ·exact h2 h
 ·exact h3 h
 ·exact h4 h
 ·exact h6 (h5 h)
theorem no_null {c : UInt8} {r : List UInt8} (h : c ≠ 110) : [1, 3, 4, 5].find? (fun k : Int => decide (nullW k = c :: r)) = none := by
 rw [List.find?_eq_none]
 intro k hk
 simp only [List.mem_cons, List.not_mem_nil, or_false] at hk
 simp only [decide_eq_true_eq]
 rcases hk with rfl | rfl | rfl | rfl <;> (intro e; injection e with e _; exact h e.symm)
theorem itoa_head (n : Int) : ∃ c r, itoa n = c :: r ∧ ((48 ≤ c.toNat ∧ c.toNat ≤ 57) ∨ (c = 45 ∧ r ≠ [])) := by
 unfold itoa
 split
 ·exact ⟨_, _, rfl, .inr ⟨rfl, decDigits_ne _⟩⟩
 ·obtain ⟨c, r, e, hc⟩ := head_digit (u := n.toNat)
  exact ⟨c, r, e, .inl (by simpa [isDig] using hc)⟩
theorem meant_tail {c : UInt8} {r : List UInt8} (h : c = 35 ∨ c = 34 ∨ c = 120 ∨ (48 ≤ c.toNat ∧ c.toNat ≤ 57) ∨ (c = 45 ∧ r ≠ [])) :
    meantS (c :: r) = if c = 35 then ⟨1, parseN r, []⟩ else if c = 34 then ⟨4, 0, (unqL (c :: r)).1⟩ else if c = 120 then ⟨5, 0, readX (c :: r)⟩ else ⟨2, parseN (c :: r), []⟩ := by
  have hc : c ≠ 110 ∧ c ≠ 116 ∧ c ≠ 102 := by
    rcases h with rfl | rfl | rfl | h | ⟨rfl, _⟩
    · decide
    · decide
    · decide
    · refine ⟨?_, ?_, ?_⟩ <;> (rintro rfl; exact absurd h (by decide))
    · decide
  unfold meantS
  rw [no_sign h]
  dsimp only
  rw [no_null hc.1]
  dsimp only
  rw [if_neg (by unfold trueW; intro e; injection e with e _; exact hc.2.1 e), if_neg (by unfold falseW; intro e; injection e with e _; exact hc.2.2 e)]
  simp only [List.head?_cons, Option.some.injEq, List.drop_succ_cons, List.drop_zero]
theorem meant_word {x : StepM} (h : mayS x = true) (h0 : -9223372036854775808 ≤ x.n) (h1 : x.n ≤ 9223372036854775807) : meantS (wordS x) = x := by
 obtain ⟨k, n, s⟩ := x
 unfold mayS at h
 unfold wordS
 dsimp only at h h0 h1 ⊢
 by_cases k1 : k = 1
 ·subst k1
  rw [if_pos rfl] at h ⊢
  simp only [decide_eq_true_eq] at h
  rw [meant_tail (.inl rfl), if_pos rfl, parseN_itoa h0 h1, h.1]
 rw [if_neg k1] at h ⊢
 by_cases k2 : k = 2
 ·subst k2
  rw [if_pos rfl] at h ⊢
  simp only [decide_eq_true_eq] at h
  obtain ⟨c, r, e, hc⟩ := itoa_head n
  have hp := parseN_itoa h0 h1
  rw [e] at hp ⊢
  rw [meant_tail (.inr (.inr (.inr hc))), if_neg, if_neg, if_neg, hp, h]
  all_goals (rcases hc with hc | ⟨rfl, _⟩ <;> first | decide | (rintro rfl; exact absurd hc (by decide)))
 rw [if_neg k2] at h ⊢
 by_cases k3 : k = 3
 ·subst k3
  rw [if_pos rfl] at h ⊢
  simp only [decide_eq_true_eq] at h
  obtain ⟨rfl, ha, hb⟩ := h
  have : n = 0 ∨ n = 1 := by omega
  rcases this with rfl | rfl <;> rfl
 rw [if_neg k3] at h ⊢
 by_cases k4 : k = 4
 ·subst k4
  rw [if_pos rfl] at h ⊢
  simp only [decide_eq_true_eq] at h
  have hu := unq_text h.2.2
  have e := textW_eq s
  rw [e] at hu ⊢
  rw [meant_tail (.inr (.inl rfl)), if_neg (by decide), if_pos rfl, hu, h.1]
 rw [if_neg k4] at h ⊢
 by_cases k5 : k = 5
 ·subst k5
  rw [if_pos rfl] at h ⊢
  simp only [decide_eq_true_eq] at h
  rw [meant_tail (.inr (.inr (.inl rfl))), if_neg (by decide), if_neg (by decide), if_pos rfl]
  unfold readX
  simp only [List.drop_succ_cons, List.drop_zero, pairs_hex, true_and]
  rw [if_pos h.2, h.1]
 rw [if_neg k5] at h ⊢
 by_cases k6 : k = 6
 ·subst k6
  rw [if_pos rfl] at h ⊢
  simp only [decide_eq_true_eq] at h
  obtain ⟨rfl, hn⟩ := h
  have : n = 1 ∨ n = 3 ∨ n = 4 ∨ n = 5 := by omega
  rcases this with rfl | rfl | rfl | rfl <;> rfl
 rw [if_neg k6] at h ⊢
 simp only [decide_eq_true_eq] at h
 obtain ⟨ha, hb, rfl, rfl⟩ := h
 have : k = 7 ∨ k = 8 ∨ k = 9 ∨ k = 10 ∨ k = 11 ∨ k = 12 ∨ k = 13 ∨ k = 14 ∨ k = 15 ∨ k = 16 ∨ k = 17 ∨ k = 18 := by omega
 rcases this with rfl | rfl | rfl | rfl | rfl | rfl | rfl | rfl | rfl | rfl | rfl | rfl <;> rfl
/-! Expressions as texts. -/
def splitW (sep : UInt8) : List UInt8 → List (List UInt8)
 | [] => [[]]
 | c :: l => if c = sep then [] :: splitW sep l else match splitW sep l with
  | w :: ws => (c :: w) :: ws
  | [] => [[c]]
def goodW (x : StepM) (w : List UInt8) : Bool := mayS x && decide (wordS x = w)
/-- The steps of words, if each is one's. -/
def readAll : List (List UInt8) → Option (List StepM)
 | [] => some []
 | w :: l => if goodW (meantS w) w = true then (readAll l).map (meantS w :: ·) else none
def parseS (s : List UInt8) : List StepM × Int :=
 if 1048576 < s.length ∨ 64 ≤ s.count 32 then ([], 5) else if s = [] then ([], 0) else match readAll (splitW 32 s) with
  | some l => (l, 0)
  | none => ([], 4)
end Go.Proofs.YtmkaahkbhdlniaaGreatDoor
