/-
 Runes in bytes: the document's way and the library's way, told plainly. No program stands here.
-/
import Derived.Lib.MapLaws
import Derived.Lib.ValidLaws
import Derived.Lib.ItoaNum
import Derived.Lib.ParseIntBTie
import Derived.Lib.Bytealg
import Derived.Test.YtmkaahkbhdlniaaGreatDoorOn4
set_option linter.unusedVariables false
set_option linter.unusedSimpArgs false
namespace Go.Proofs.YtmkaahkbhdlniaaGreatDoor
open Go Go.Lib

/-- The rune with which bytes begin, and its width. -/
def nextL (l : List UInt8) : Option (Nat × Nat) := if l = [] ∨ ((decodeL l).1 = 65533 ∧ (decodeL l).2 = 1) then none else some (decodeL l)
/-- A rune's bytes, if it is one. -/
def putL (r : Int) : Option (List UInt8) := if r < 0 ∨ 1114111 < r ∨ (55296 ≤ r ∧ r ≤ 57343) then none else some (encodeRune r)
/-- What bytes say, were they a rune's. -/
def numL : List UInt8 → Nat
 | [a] => a.toNat
 | [a, b] => 64 * (a.toNat % 32) + b.toNat % 64
 | [a, b, c] => 64 * (64 * (a.toNat % 16) + b.toNat % 64) + c.toNat % 64
 | [a, b, c, d] => 64 * (64 * (64 * (a.toNat % 8) + b.toNat % 64) + c.toNat % 64) + d.toNat % 64
 | _ => 0
/-- The first k bytes are a rune's. -/
def okL (l : List UInt8) (k : Nat) : Prop := putL (numL (l.take k) : Nat) = some (l.take k)
instance (l : List UInt8) (k : Nat) : Decidable (okL l k) := by unfold okL; infer_instance

theorem u8_eq {n : Nat} {a : UInt8} : n.toUInt8 = a ↔ n % 256 = a.toNat := by
 rw [← UInt8.toNat_inj]
 simp
section
variable {a b c d : UInt8} {t : List UInt8}
theorem ok1 : okL (a :: t) 1 ↔ a.toNat < 128 := by
 have ha := a.toNat_lt
 unfold okL
 simp only [List.take_succ_cons, List.take_zero, numL]
 unfold putL
 rw [if_neg (by omega)]
 constructor
 ·intro h
  refine Classical.byContradiction fun hn => ?_
  rw [encodeRune, encodeRuneZ_two (by omega) (by omega)] at h
  simp at h
 ·intro h
  rw [encodeRune, encodeRuneZ_one (by omega) (by omega)]
  simp
theorem ok2 : okL (a :: b :: t) 2 ↔ a.toNat / 32 = 6 ∧ b.toNat / 64 = 2 ∧ 128 ≤ a.toNat % 32 * 64 + b.toNat % 64 := by
 have ha := a.toNat_lt
 have hb := b.toNat_lt
 unfold okL
 simp only [List.take_succ_cons, List.take_zero, numL]
 unfold putL
 rw [if_neg (by omega)]
 by_cases h0 : 64 * (a.toNat % 32) + b.toNat % 64 < 128
 ·rw [encodeRune, encodeRuneZ_one (by omega) (by omega)]
  simp
  omega
 ·rw [encodeRune, encodeRuneZ_two (by omega) (by omega)]
  simp only [List.map_cons, List.map_nil, Option.some.injEq, List.cons.injEq, and_true, u8_eq]
  omega
theorem ok3 : okL (a :: b :: c :: t) 3 ↔ a.toNat / 16 = 14 ∧ b.toNat / 64 = 2 ∧ c.toNat / 64 = 2 ∧ 2048 ≤ a.toNat % 16 * 4096 + b.toNat % 64 * 64 + c.toNat % 64 ∧
    (a.toNat % 16 * 4096 + b.toNat % 64 * 64 + c.toNat % 64 < 55296 ∨ 57344 ≤ a.toNat % 16 * 4096 + b.toNat % 64 * 64 + c.toNat % 64) := by
  have ha := a.toNat_lt
  have hb := b.toNat_lt
  have hc := c.toNat_lt
  unfold okL
  simp only [List.take_succ_cons, List.take_zero, numL]
  unfold putL
  by_cases hs : 55296 ≤ 64 * (64 * (a.toNat % 16) + b.toNat % 64) + c.toNat % 64 ∧ 64 * (64 * (a.toNat % 16) + b.toNat % 64) + c.toNat % 64 ≤ 57343
  · rw [if_pos (by omega)]
    simp
    omega
  rw [if_neg (by omega)]
  by_cases h0 : 64 * (64 * (a.toNat % 16) + b.toNat % 64) + c.toNat % 64 < 128
  · rw [encodeRune, encodeRuneZ_one (by omega) (by omega)]
    simp
    omega
  by_cases h1 : 64 * (64 * (a.toNat % 16) + b.toNat % 64) + c.toNat % 64 < 2048
  · rw [encodeRune, encodeRuneZ_two (by omega) (by omega)]
    simp
    omega
  · rw [encodeRune, encodeRuneZ_three (by omega)]
    simp only [List.map_cons, List.map_nil, Option.some.injEq, List.cons.injEq, and_true, u8_eq]
    omega
theorem ok4 : okL (a :: b :: c :: d :: t) 4 ↔ a.toNat / 8 = 30 ∧ b.toNat / 64 = 2 ∧ c.toNat / 64 = 2 ∧ d.toNat / 64 = 2 ∧ 65536 ≤ a.toNat % 8 * 262144 + b.toNat % 64 * 4096 + c.toNat % 64 * 64 + d.toNat % 64 ∧
    a.toNat % 8 * 262144 + b.toNat % 64 * 4096 + c.toNat % 64 * 64 + d.toNat % 64 ≤ 1114111 := by
  have ha := a.toNat_lt
  have hb := b.toNat_lt
  have hc := c.toNat_lt
  have hd := d.toNat_lt
  unfold okL
  simp only [List.take_succ_cons, List.take_zero, numL]
  unfold putL
  obtain ⟨n, hn⟩ : ∃ n, n = 64 * (64 * (64 * (a.toNat % 8) + b.toNat % 64) + c.toNat % 64) + d.toNat % 64 := ⟨_, rfl⟩
  rw [← hn]
  by_cases hs : 1114111 < n ∨ (55296 ≤ n ∧ n ≤ 57343)
  · rw [if_pos (by omega)]
    simp
    omega
  rw [if_neg (by omega)]
  by_cases h0 : n < 128
  · rw [encodeRune, encodeRuneZ_one (by omega) (by omega)]
    simp
    omega
  by_cases h1 : n < 2048
  · rw [encodeRune, encodeRuneZ_two (by omega) (by omega)]
    simp
    omega
  by_cases h2 : n < 65536
  · rw [encodeRune, encodeRuneZ_three (by omega)]
    simp
    omega
  · rw [encodeRune, encodeRuneZ_four (by omega) (by omega)]
    simp only [List.map_cons, List.map_nil, Option.some.injEq, List.cons.injEq, and_true, u8_eq]
    omega
end
theorem decodeL_cons (a : UInt8) (t : List UInt8) : decodeL (a :: t) = decodeN (t.length + 1) a.toNat (t.getD 0 0).toNat (t.getD 1 0).toNat (t.getD 2 0).toNat := by
 rw [decodeL_N]; rfl
theorem next_of_ok {l : List UInt8} {k : Nat} (h1 : 1 ≤ k) (h4 : k ≤ 4) (hk : k ≤ l.length) (h : okL l k) : nextL l = some (numL (l.take k), k) := by
 have hk' : k = 1 ∨ k = 2 ∨ k = 3 ∨ k = 4 := by omega
 unfold nextL
 rcases hk' with rfl | rfl | rfl | rfl
 ·obtain ⟨a, t, rfl⟩ : ∃ a t, l = a :: t := by cases l with | nil => simp at hk | cons a t => exact ⟨a, t, rfl⟩
  have h := ok1.1 h
  have hd : decodeL (a :: t) = (a.toNat, 1) := by rw [decodeL_cons, decodeN, if_pos h]
  rw [hd, if_neg (by simp; omega)]
  rfl
 ·obtain ⟨a, b, t, rfl⟩ : ∃ a b t, l = a :: b :: t := by match l, hk with | a :: b :: t, _ => exact ⟨a, b, t, rfl⟩
  obtain ⟨h2, h3, h5⟩ := ok2.1 h
  have hd : decodeL (a :: b :: t) = (a.toNat % 32 * 64 + b.toNat % 64, 2) := by
   rw [decodeL_cons, decodeN, if_neg (by omega), if_pos ⟨h2, by simp, by simpa using h3⟩]
   simp only [List.getD_cons_zero]
   rw [if_pos h5]
  rw [hd, if_neg (by simp)]
  simp only [List.take_succ_cons, List.take_zero, numL]
  congr 2; omega
 ·obtain ⟨a, b, c, t, rfl⟩ : ∃ a b c t, l = a :: b :: c :: t := by match l, hk with | a :: b :: c :: t, _ => exact ⟨a, b, c, t, rfl⟩
  obtain ⟨h2, h3, h5, h6, h7⟩ := ok3.1 h
  have hd : decodeL (a :: b :: c :: t) = (a.toNat % 16 * 4096 + b.toNat % 64 * 64 + c.toNat % 64, 3) := by
   rw [decodeL_cons, decodeN, if_neg (by omega), if_neg (by omega), if_pos ⟨h2, ⟨by simp, by simpa using h3⟩, by simp, by simpa using h5⟩]
   simp only [List.getD_cons_zero, List.getD_cons_succ]
   rw [if_pos ⟨h6, by omega⟩]
  rw [hd, if_neg (by simp)]
  simp only [List.take_succ_cons, List.take_zero, numL]
  congr 2; omega
 ·obtain ⟨a, b, c, d, t, rfl⟩ : ∃ a b c d t, l = a :: b :: c :: d :: t := by match l, hk with | a :: b :: c :: d :: t, _ => exact ⟨a, b, c, d, t, rfl⟩
  obtain ⟨h2, h3, h5, h6, h7, h8⟩ := ok4.1 h
  have hd : decodeL (a :: b :: c :: d :: t) = (a.toNat % 8 * 262144 + b.toNat % 64 * 4096 + c.toNat % 64 * 64 + d.toNat % 64, 4) := by
   rw [decodeL_cons, decodeN, if_neg (by omega), if_neg (by omega), if_neg (by omega), if_pos ⟨h2, ⟨by simp, by simpa using h3⟩, ⟨by simp, by simpa using h5⟩, by simp, by simpa using h6⟩]
   simp only [List.getD_cons_zero, List.getD_cons_succ]
   rw [if_pos ⟨h7, by omega⟩]
  rw [hd, if_neg (by simp)]
  simp only [List.take_succ_cons, List.take_zero, numL]
  congr 2; omega
theorem next_none {l : List UInt8} (h : ∀ k, 1 ≤ k → k ≤ 4 → k ≤ l.length → ¬ okL l k) : nextL l = none := by
  unfold nextL
  match l, h with
  | [], _ => rw [if_pos (.inl rfl)]
  | a :: t, h =>
    rw [decodeL_cons]
    rcases decodeN_shape (t.length + 1) a.toNat (t.getD 0 0).toNat (t.getD 1 0).toNat (t.getD 2 0).toNat with ⟨c, e⟩ | ⟨c1, c2, c3, cv, e⟩ | ⟨c1, c2, c3, c4, cv, cs, e⟩ | ⟨c1, c2, c3, c4, c5, cv, cw, e⟩ | e
    · exact absurd (ok1.2 c) (h 1 (by omega) (by omega) (by simp))
    · obtain ⟨b, u, rfl⟩ : ∃ b u, t = b :: u := by cases t with | nil => simp at c2 | cons b u => exact ⟨b, u, rfl⟩
      exact absurd (ok2.2 ⟨c1, c3, cv⟩) (h 2 (by omega) (by omega) (by simp))
    · obtain ⟨b, c, u, rfl⟩ : ∃ b c u, t = b :: c :: u := by
        cases t with
        | nil => simp at c2
        | cons b u => cases u with
          | nil => simp at c2
          | cons c u => exact ⟨b, c, u, rfl⟩
      exact absurd (ok3.2 ⟨c1, c3, c4, cv, cs⟩) (h 3 (by omega) (by omega) (by simp))
    · obtain ⟨b, c, d, u, rfl⟩ : ∃ b c d u, t = b :: c :: d :: u := by
        cases t with
        | nil => simp at c2
        | cons b u => cases u with
          | nil => simp at c2
          | cons c u => cases u with
            | nil => simp at c2
            | cons d u => exact ⟨b, c, d, u, rfl⟩
      exact absurd (ok4.2 ⟨c1, c3, c4, c5, cv, cw⟩) (h 4 (by omega) (by omega) (by simp))
    · rw [e, if_pos (.inr ⟨rfl, rfl⟩)]
theorem next_some {l : List UInt8} {r n : Nat} (h : nextL l = some (r, n)) : decodeL l = (r, n) ∧ 1 ≤ n ∧ n ≤ l.length ∧ encodeRune (r : Int) = l.take n := by
 unfold nextL at h
 split at h
 ·cases h
 ·rename_i hn
  injection h with h
  have hne : l ≠ [] := fun e => hn (.inl e)
  have hv : ¬ ((decodeL l).1 = 65533 ∧ (decodeL l).2 = 1) := fun e => hn (.inr e)
  have h1 := encode_decode l hne hv
  have h2 := decodeL_le l hne
  have h3 := decodeL_width l
  rw [h] at h1 h2 h3
  exact ⟨h, h3, h2, h1⟩
theorem valid_step {l : List UInt8} (hne : l ≠ []) : validD l = match nextL l with | none => false | some (_, n) => validD (l.drop n) := by
 rw [validD_step l hne]
 unfold nextL
 by_cases h : (decodeL l).1 = 65533 ∧ (decodeL l).2 = 1
 ·rw [if_pos h, if_pos (.inr h)]
 ·rw [if_neg h, if_neg (fun e => e.elim hne h)]
end Go.Proofs.YtmkaahkbhdlniaaGreatDoor
/-
 Literals of texts and bytes, told plainly; what is written is read back. No program stands here.
-/
namespace Go.Proofs.YtmkaahkbhdlniaaGreatDoor
open Go Go.Lib

/-- A digit to the base 16. -/
def hexB (n : Nat) : UInt8 := if n < 10 then (48 + n).toUInt8 else (87 + n).toUInt8
/-- A byte in a literal. -/
def quoteB (c : UInt8) : List UInt8 :=
 if c = 34 then [92, 34] else if c = 92 then [92, 92] else if c = 8 then [92, 98] else if c = 12 then [92, 102] else if c = 10 then [92, 110] else if c = 13 then [92, 114] else if c = 9 then [92, 116]
 else if c < 32 then [92, 117, 48, 48, hexB (c.toNat / 16), hexB (c.toNat % 16)] else [c]
def quoteL (s : List UInt8) : List UInt8 := 34 :: (s.flatMap quoteB ++ [34])
/-- A digit's number. -/
def digitL (c : UInt8) : Option Nat := if 48 ≤ c.toNat ∧ c.toNat ≤ 57 then some (c.toNat - 48) else if 97 ≤ c.toNat ∧ c.toNat ≤ 102 then some (c.toNat - 87) else if 65 ≤ c.toNat ∧ c.toNat ≤ 70 then some (c.toNat - 55) else none
/-- The number of four digits. -/
def halfL (s : List UInt8) (second : Bool) : Nat × Int :=
 match s[0]? with
 | none => (0, 3)
 | some c0 => match digitL c0 with
  | none => (0, 41)
  | some d0 => if second = true ∧ d0 ≠ 13 then (0, 41) else match s[1]? with
   | none => (0, 3)
   | some c1 => match digitL c1 with
    | none => (0, 41)
    | some d1 => if second ≠ decide (220 ≤ 16 * d0 + d1 ∧ 16 * d0 + d1 ≤ 223) then (0, 41) else match s[2]? with
     | none => (0, 3)
     | some c2 => match digitL c2 with
      | none => (0, 41)
      | some d2 => match s[3]? with
       | none => (0, 3)
       | some c3 => match digitL c3 with
        | none => (0, 41)
        | some d3 => (16 * (16 * (16 * d0 + d1) + d2) + d3, 0)
/-- The byte that an escape of two bytes says. -/
def shortL (c : UInt8) : Option UInt8 :=
 if c = 34 then some 34 else if c = 92 then some 92 else if c = 47 then some 47 else if c = 98 then some 8 else if c = 102 then some 12 else if c = 110 then some 10 else if c = 114 then some 13 else if c = 116 then some 9 else none
/-- The second half of a rune of two. -/
def escT (s : List UInt8) (n : Nat) : List UInt8 × Nat × Int :=
 match s[6]? with
 | none => ([], 0, 3)
 | some c6 => if c6 ≠ 92 then ([], 0, 41) else match s[7]? with
  | none => ([], 0, 3)
  | some c7 => if c7 ≠ 117 then ([], 0, 41) else
   let k := halfL (s.drop 8) true
   if k.2 ≠ 0 then ([], 0, k.2) else (encodeRune (65536 + 1024 * ((n : Int) - 55296) + k.1 - 56320), 12, 0)
/-- What an escape says, how many bytes it has; an error. -/
def escL (s : List UInt8) : List UInt8 × Nat × Int :=
 match s[1]? with
 | none => ([], 0, 3)
 | some c => match shortL c with
  | some b => ([b], 2, 0)
  | none => if c ≠ 117 then ([], 0, 41) else
   let h := halfL (s.drop 2) false
   if h.2 ≠ 0 then ([], 0, h.2)
   else if h.1 < 55296 ∨ 56319 < h.1 then (encodeRune h.1, 6, 0)
   else escT s h.1
/-- Can more bytes make a rune's bytes of these? -/
def beginsL : List UInt8 → Bool
  | [a] => decide (194 ≤ a.toNat ∧ a.toNat ≤ 244)
  | [a, b] => decide ((a.toNat = 224 ∧ 160 ≤ b.toNat ∧ b.toNat ≤ 191) ∨ ((225 ≤ a.toNat ∧ a.toNat ≤ 236 ∨ 238 ≤ a.toNat ∧ a.toNat ≤ 239) ∧ 128 ≤ b.toNat ∧ b.toNat ≤ 191) ∨ (a.toNat = 237 ∧ 128 ≤ b.toNat ∧ b.toNat ≤ 159) ∨
      (a.toNat = 240 ∧ 144 ≤ b.toNat ∧ b.toNat ≤ 191) ∨ (241 ≤ a.toNat ∧ a.toNat ≤ 243 ∧ 128 ≤ b.toNat ∧ b.toNat ≤ 191) ∨ (a.toNat = 244 ∧ 128 ≤ b.toNat ∧ b.toNat ≤ 143))
  | [a, b, c] => decide (((a.toNat = 240 ∧ 144 ≤ b.toNat ∧ b.toNat ≤ 191) ∨ (241 ≤ a.toNat ∧ a.toNat ≤ 243 ∧ 128 ≤ b.toNat ∧ b.toNat ≤ 191) ∨ (a.toNat = 244 ∧ 128 ≤ b.toNat ∧ b.toNat ≤ 143)) ∧ 128 ≤ c.toNat ∧ c.toNat ≤ 191)
  | _ => false
/-- The rest of a literal: what has come, how many bytes were taken. -/
def unqR : Nat → List UInt8 → Nat → List UInt8 → List UInt8 × Nat × Int
 | 0, _, _, _ => ([], 0, 3)
 | f + 1, rest, i, out => match rest with
  | [] => ([], 0, 3)
  | c :: t => if c = 34 then (out, i + 1, 0) else if c < 32 then ([], 0, 41)
   else if c = 92 then (let e := escL (c :: t); if e.2.2 ≠ 0 then ([], 0, e.2.2) else unqR f ((c :: t).drop e.2.1) (i + e.2.1) (out ++ e.1))
   else match nextL (c :: t) with
    | some (_, n) => unqR f ((c :: t).drop n) (i + n) (out ++ (c :: t).take n)
    | none => ([], 0, if beginsL (c :: t) then 3 else 40)
def unqL (s : List UInt8) : List UInt8 × Nat × Int :=
 match s with
 | [] => ([], 0, 3)
 | c :: t => if c ≠ 34 then ([], 0, 41) else unqR (t.length + 1) t 1 []
/-- An escape is an error, or has bytes. -/
theorem escL_cases (s : List UInt8) : (∃ e : Int, e ≠ 0 ∧ escL s = ([], 0, e)) ∨ ∃ b n, 1 ≤ n ∧ escL s = (b, n, 0) := by
 obtain ⟨x, hx⟩ : ∃ x, x = escL s := ⟨_, rfl⟩
 rw [← hx]
 unfold escL escT at hx
 dsimp only at hx
 repeat' split at hx
 all_goals first
  | exact .inl ⟨_, by decide, hx⟩
  | exact .inr ⟨_, _, by decide, hx⟩
  | exact .inl ⟨_, by assumption, hx⟩
theorem unqR_more : ∀ {f g : Nat} {rest : List UInt8} {i : Nat} {out : List UInt8}, rest.length < f → rest.length < g → unqR f rest i out = unqR g rest i out := by
 intro f
 induction f with
 | zero => intro g rest i out h; exact absurd h (Nat.not_lt_zero _)
 | succ f ih =>
  intro g rest i out hf hg
  cases g with
  | zero => exact absurd hg (Nat.not_lt_zero _)
  | succ g =>
   cases rest with
   | nil => rfl
   | cons c t =>
    unfold unqR
    have hdrop : ∀ k, 1 ≤ k → ((c :: t).drop k).length < f ∧ ((c :: t).drop k).length < g := fun k hk => by
     rw [List.length_drop]
     simp only [List.length_cons] at hf hg ⊢
     omega
    dsimp only
    split
    ·rfl
    split
    ·rfl
    split
    ·split
     ·rfl
     ·rename_i he
      have h1 : 1 ≤ (escL (c :: t)).2.1 := by
       rcases escL_cases (c :: t) with ⟨e, h0, hx⟩ | ⟨b, n, hn, hx⟩
       ·rw [hx] at he; exact absurd h0 he
       ·rw [hx]; exact hn
      obtain ⟨a, b⟩ := hdrop _ h1
      exact ih a b
    ·cases hn : nextL (c :: t) with
     | none => rfl
     | some x =>
      obtain ⟨r, n⟩ := x
      obtain ⟨_, h1, _, _⟩ := next_some hn
      obtain ⟨a, b⟩ := hdrop _ h1
      exact ih a b
end Go.Proofs.YtmkaahkbhdlniaaGreatDoor
/-
 Cells, steps, and what an expression gives, told plainly. No program stands here.
-/
namespace Go.Proofs.YtmkaahkbhdlniaaGreatDoor
open Go Go.Lib

structure TypeM where
 kind : Int
 null : Bool
structure CellM where
 null : Bool
 n : Int
 s : List UInt8
structure ColM where
 id : Int
 name : List UInt8
 type : TypeM
 dflt : CellM
structure StepM where
 kind : Int
 n : Int
 s : List UInt8
theorem TypeM.ext' {a b : TypeM} (h1 : a.kind = b.kind) (h2 : a.null = b.null) : a = b := by cases a; cases b; simp_all
theorem CellM.ext' {a b : CellM} (h1 : a.null = b.null) (h2 : a.n = b.n) (h3 : a.s = b.s) : a = b := by cases a; cases b; simp_all
theorem StepM.ext' {a b : StepM} (h1 : a.kind = b.kind) (h2 : a.n = b.n) (h3 : a.s = b.s) : a = b := by cases a; cases b; simp_all
theorem ColM.ext' {a b : ColM} (h1 : a.id = b.id) (h2 : a.name = b.name) (h3 : a.type = b.type) (h4 : a.dflt = b.dflt) : a = b := by cases a; cases b; simp_all
instance : DecidableEq TypeM := fun a b => decidable_of_iff (a.kind = b.kind ∧ a.null = b.null) ⟨fun h => TypeM.ext' h.1 h.2, fun h => by subst h; exact ⟨rfl, rfl⟩⟩
instance : DecidableEq CellM := fun a b => decidable_of_iff (a.null = b.null ∧ a.n = b.n ∧ a.s = b.s) ⟨fun h => CellM.ext' h.1 h.2.1 h.2.2, fun h => by subst h; exact ⟨rfl, rfl, rfl⟩⟩
instance : DecidableEq StepM := fun a b => decidable_of_iff (a.kind = b.kind ∧ a.n = b.n ∧ a.s = b.s) ⟨fun h => StepM.ext' h.1 h.2.1 h.2.2, fun h => by subst h; exact ⟨rfl, rfl, rfl⟩⟩
instance : DecidableEq ColM := fun a b => decidable_of_iff (a.id = b.id ∧ a.name = b.name ∧ a.type = b.type ∧ a.dflt = b.dflt) ⟨fun h => ColM.ext' h.1 h.2.1 h.2.2.1 h.2.2.2, fun h => by subst h; exact ⟨rfl, rfl, rfl, rfl⟩⟩
def cell0 : CellM := ⟨false, 0, []⟩
def cellNull : CellM := ⟨true, 0, []⟩
def type0 : TypeM := ⟨0, false⟩
/-- May a type be? -/
def mayT (t : TypeM) : Bool := decide (1 ≤ t.kind ∧ t.kind ≤ 5)
/-- Is a cell that is not nothing of a kind? -/
def isC (kind : Int) (c : CellM) : Bool :=
 if kind = 1 then decide (c.s = [] ∧ 0 ≤ c.n ∧ c.n ≤ 1)
 else if kind = 2 then decide (c.s = [] ∧ -2147483648 ≤ c.n ∧ c.n ≤ 2147483647)
 else if kind = 3 then decide (c.s = [])
 else if kind = 4 then decide (c.n = 0 ∧ c.s.length ≤ 1024 ∧ validD c.s = true)
 else decide (c.n = 0 ∧ c.s.length ≤ 1024)
def checkC (t : TypeM) (c : CellM) : Int :=
 if mayT t = false then 2 else if c.null = true then (if t.null = true ∧ c = cellNull then 0 else 90) else if isC t.kind c = true then 0 else 90
/-- May a step be? -/
def mayS (x : StepM) : Bool :=
 if x.kind = 1 then decide (x.s = [] ∧ 1 ≤ x.n ∧ x.n ≤ 1048576)
 else if x.kind = 2 then decide (x.s = [])
 else if x.kind = 3 then decide (x.s = [] ∧ 0 ≤ x.n ∧ x.n ≤ 1)
 else if x.kind = 4 then decide (x.n = 0 ∧ x.s.length ≤ 1024 ∧ validD x.s = true)
 else if x.kind = 5 then decide (x.n = 0 ∧ x.s.length ≤ 1024)
 else if x.kind = 6 then decide (x.s = [] ∧ (x.n = 1 ∨ (3 ≤ x.n ∧ x.n ≤ 5)))
 else decide (7 ≤ x.kind ∧ x.kind ≤ 18 ∧ x.n = 0 ∧ x.s = [])
/-- How many values a step takes. -/
def takesS (kind : Int) : Nat := if kind < 7 then 0 else if kind = 10 ∨ kind = 15 ∨ kind = 16 ∨ kind = 18 then 1 else 2
/-- The place of the first column of an id. -/
def findC (cols : List ColM) (id : Int) : Option Nat := cols.findIdx? fun c => decide (c.id = id)
/-- The type of what a step puts that takes nothing. -/
def leafT (cols : List ColM) (x : StepM) : Option TypeM :=
 if x.kind = 1 then (match findC cols x.n with
  | none => none
  | some i => let t := (cols.getD i ⟨0, [], type0, cell0⟩).type
   if mayT t = false then none else some (if t.kind = 2 then ⟨3, t.null⟩ else t))
 else if x.kind = 2 then some ⟨3, false⟩
 else if x.kind = 3 then some ⟨1, false⟩
 else if x.kind = 4 then some ⟨4, false⟩
 else if x.kind = 5 then some ⟨5, false⟩
 else some ⟨x.n, true⟩
/-- The type of what a step makes of two; of one: both are that one. -/
def madeT (kind : Int) (a b : TypeM) : Option TypeM :=
 if kind = 7 ∨ kind = 8 ∨ kind = 9 ∨ kind = 10 then (if a.kind = 3 ∧ b.kind = 3 then some ⟨3, a.null || b.null⟩ else none)
 else if kind = 11 ∨ kind = 12 then (if a.kind = b.kind then some ⟨1, a.null || b.null⟩ else none)
 else if kind = 13 ∨ kind = 14 ∨ kind = 15 then (if a.kind = 1 ∧ b.kind = 1 then some ⟨1, a.null || b.null⟩ else none)
 else if kind = 16 then some ⟨1, false⟩
 else if kind = 17 then (if a.kind = b.kind then some ⟨a.kind, a.null && b.null⟩ else none)
 else (if a.kind = 4 ∨ a.kind = 5 then some ⟨3, a.null || b.null⟩ else none)
/-- The stack behind a step; the last one lies on top. -/
def stepT (cols : List ColM) (st : List TypeM) (x : StepM) : Option (List TypeM) :=
 let k := takesS x.kind
 if mayS x = false ∨ st.length < k then none
 else (if k = 0 then leafT cols x else madeT x.kind (st.getD (st.length - k) type0) (st.getD (st.length - 1) type0)).map fun t => st.take (st.length - k) ++ [t]
def runT (cols : List ColM) : List TypeM → List StepM → Option (List TypeM)
 | st, [] => some st
 | st, x :: l => (stepT cols st x).bind fun st => runT cols st l
/-- The type of what an expression gives. -/
def typeS (cols : List ColM) (l : List StepM) : TypeM × Int :=
 if 64 < l.length then (type0, 5) else match runT cols [] l with
  | some [t] => (t, 0)
  | _ => (type0, 220)
def flagC (b : Bool) : CellM := if b then ⟨false, 1, []⟩ else cell0
def fitsI (n : Int) : Bool := decide (-9223372036854775808 ≤ n ∧ n ≤ 9223372036854775807)
def cmpC (a b : CellM) : Int :=
 if a.null = b.null then (if a.n < b.n then -1 else if b.n < a.n then 1 else compareBytes a.s b.s) else if a.null = true then -1 else 1
/-- What and, or, not make. -/
def logicC (kind : Int) (a b : CellM) : CellM :=
 if kind = 13 ∧ (a = flagC false ∨ b = flagC false) then flagC false
 else if kind = 14 ∧ (a = flagC true ∨ b = flagC true) then flagC true
 else if a = cellNull ∨ b = cellNull then cellNull
 else if kind = 15 then flagC (decide (a = flagC false))
 else flagC (decide (kind = 13))
/-- What a step makes of two cells; of one: both are that one. -/
def madeC (kind : Int) (a b : CellM) : Option CellM :=
 if kind = 13 ∨ kind = 14 ∨ kind = 15 then some (logicC kind a b)
 else if kind = 16 then some (flagC a.null)
 else if kind = 17 then some (if a.null then b else a)
 else if a.null = true ∨ b.null = true then some cellNull
 else if kind = 11 then some (flagC (decide (cmpC a b = 0)))
 else if kind = 12 then some (flagC (decide (cmpC a b < 0)))
 else if kind = 18 then some ⟨false, a.s.length, []⟩
 else let n := if kind = 7 then a.n + b.n else if kind = 8 then a.n - b.n else if kind = 9 then a.n * b.n else -a.n
  if fitsI n = true then some ⟨false, n, []⟩ else none
def rowCheck (cols : List ColM) (r : List CellM) : Int :=
 if cols.length ≠ r.length then 100 else ((cols.zip r).map fun p => checkC p.1.type p.2).find? (fun e => decide (e ≠ 0)) |>.getD 0
/-- The cells behind a step. -/
def stepE (cols : List ColM) (r : List CellM) (st : List CellM) (x : StepM) : Option (List CellM) :=
  let k := takesS x.kind
  (if k = 0 then some (if x.kind = 1 then r.getD ((findC cols x.n).getD 0) cell0 else if x.kind = 6 then cellNull else ⟨false, x.n, x.s⟩)
   else madeC x.kind (st.getD (st.length - k) cell0) (st.getD (st.length - 1) cell0)).map fun c => st.take (st.length - k) ++ [c]
def runE (cols : List ColM) (r : List CellM) : List CellM → List StepM → Option (List CellM)
 | st, [] => some st
 | st, x :: l => (stepE cols r st x).bind fun st => runE cols r st l
/-- What an expression gives in a row. -/
def evalS (cols : List ColM) (l : List StepM) (r : List CellM) : CellM × Int :=
 if (typeS cols l).2 ≠ 0 then (cell0, (typeS cols l).2) else if rowCheck cols r ≠ 0 then (cell0, rowCheck cols r)
 else match runE cols r [] l with
  | none => (cell0, 50)
  | some st => (st.getD 0 cell0, 0)
/-- A number into a rising row, if it is not there. -/
def insertI (k : Int) : List Int → List Int
 | [] => [k]
 | x :: l => if x < k then x :: insertI k l else if x = k then x :: l else k :: x :: l
def usesS (l : List StepM) : List Int := (l.filter fun x => decide (x.kind = 1)).foldl (fun a x => insertI x.n a) []
/-! Words. -/
def nullW (k : Int) : List UInt8 := if k = 1 then [110, 117, 108, 108, 58, 98, 111, 111, 108] else if k = 3 then [110, 117, 108, 108, 58, 105, 110, 116, 54, 52] else if k = 4 then [110, 117, 108, 108, 58, 115, 116, 114, 105, 110, 103] else if k = 5 then [110, 117, 108, 108, 58, 98, 121, 116, 101, 115] else []
def signsW : List (List UInt8) := [[43], [45], [42], [110, 101, 103], [61], [60], [97, 110, 100], [111, 114], [110, 111, 116], [105, 115, 110, 117, 108, 108], [101, 108, 115, 101], [108, 101, 110]]
def hexL (s : List UInt8) : List UInt8 := s.flatMap fun c => [hexB (c.toNat / 16), hexB (c.toNat % 16)]
/-- A text's literal, without blanks. -/
def textW (s : List UInt8) : List UInt8 := (quoteL s).flatMap fun c => if c = 32 then [92, 117, 48, 48, 50, 48] else [c]
/-- The word of a step that may be. -/
def wordS (x : StepM) : List UInt8 :=
 if x.kind = 1 then 35 :: itoa x.n
 else if x.kind = 2 then itoa x.n
 else if x.kind = 3 then (if x.n = 1 then [116, 114, 117, 101] else [102, 97, 108, 115, 101])
 else if x.kind = 4 then textW x.s
 else if x.kind = 5 then 120 :: hexL x.s
 else if x.kind = 6 then nullW x.n
 else signsW.getD (x.kind - 7).toNat []
end Go.Proofs.YtmkaahkbhdlniaaGreatDoor
/-
 What is written as a literal is read back. No program stands here.
-/
namespace Go.Proofs.YtmkaahkbhdlniaaGreatDoor
open Go Go.Lib

theorem next_ok {l : List UInt8} {r n : Nat} (h : nextL l = some (r, n)) : 1 ≤ n ∧ n ≤ 4 ∧ n ≤ l.length ∧ okL l n ∧ r = numL (l.take n) := by
 by_cases hk : ∃ k, 1 ≤ k ∧ k ≤ 4 ∧ k ≤ l.length ∧ okL l k
 ·obtain ⟨k, h1, h4, hl, hok⟩ := hk
  rw [next_of_ok h1 h4 hl hok] at h
  injection h with h
  injection h with h2 h3
  subst h3
  exact ⟨h1, h4, hl, hok, h2.symm⟩
 ·rw [next_none fun k h1 h4 hl hok => hk ⟨k, h1, h4, hl, hok⟩] at h
  cases h
theorem quoteB_high {c : UInt8} (h : 128 ≤ c.toNat) : quoteB c = [c] := by
 unfold quoteB
 have e : ∀ k : UInt8, k.toNat < 128 → c ≠ k := fun k hk e => by subst e; omega
 rw [if_neg (e _ (by decide)), if_neg (e _ (by decide)), if_neg (e _ (by decide)), if_neg (e _ (by decide)), if_neg (e _ (by decide)), if_neg (e _ (by decide)), if_neg (e _ (by decide)), if_neg (fun h2 => by have := UInt8.lt_iff_toNat_lt.1 h2; simp at this; omega)]
end Go.Proofs.YtmkaahkbhdlniaaGreatDoor
/-
 Words are read back as the steps that wrote them; both ways to read a word say the same. No program stands here.
-/
namespace Go.Proofs.YtmkaahkbhdlniaaGreatDoor
open Go Go.Lib

/-! Numbers. -/
theorem decDigits_len : ∀ (k u : Nat), u < 10 ^ (k + 1) → (decDigits u).length ≤ k + 1
 | 0, u, h => by rw [decDigits, dif_pos (by simpa using h)]; simp
 | k + 1, u, h => by
  rw [decDigits]
  split
  ·simp
  ·have := decDigits_len k (u / 10) (by rw [Nat.pow_succ] at h; omega)
   rw [List.length_append, List.length_singleton]; omega
/-- The number that ParseInt hands back. -/
def parseN (w : List UInt8) : Int := match parseIntB 64 w with
 | .ok v => v
 | .range => intSat 64 w
 | _ => 0
/-! Bytes. -/
def hexD (c : UInt8) : Option Nat := if 48 ≤ c.toNat ∧ c.toNat ≤ 57 then some (c.toNat - 48) else if 97 ≤ c.toNat ∧ c.toNat ≤ 102 then some (c.toNat - 87) else none
/-- The program's way: pairs, what is no digit is 0. -/
def pairsL : List UInt8 → List UInt8
 | a :: b :: t => ((hexD a).getD 0 * 16 + (hexD b).getD 0).toUInt8 :: pairsL t
 | _ => []
/-! Words. -/
def trueW : List UInt8 := [116, 114, 117, 101]
def falseW : List UInt8 := [102, 97, 108, 115, 101]
/-- The bytes that the program reads. -/
def readX (w : List UInt8) : List UInt8 := let s := pairsL (w.drop 1); if 120 :: hexL s = w ∧ s.length ≤ 1024 then s else []
/-- The step that the program takes a word for. -/
def meantS (w : List UInt8) : StepM :=
 match signsW.findIdx? (fun x => decide (x = w)) with
 | some i => ⟨7 + i, 0, []⟩
 | none => match [1, 3, 4, 5].find? (fun k : Int => decide (nullW k = w)) with
  | some k => ⟨6, k, []⟩
  | none => if w = trueW then ⟨3, 1, []⟩ else if w = falseW then ⟨3, 0, []⟩
   else if w.head? = some 35 then ⟨1, parseN (w.drop 1), []⟩
   else if w.head? = some 34 then ⟨4, 0, (unqL w).1⟩
   else if w.head? = some 120 then ⟨5, 0, readX w⟩
   else ⟨2, parseN w, []⟩
/-! Expressions as texts. -/
def splitW (sep : UInt8) : List UInt8 → List (List UInt8)
 | [] => [[]]
 | c :: l => if c = sep then [] :: splitW sep l else match splitW sep l with
  | w :: ws => (c :: w) :: ws
  | [] => [[c]]
def goodW (x : StepM) (w : List UInt8) : Bool := mayS x && decide (wordS x = w)
/-- The steps of words, if each is one's. -/
def readAll : List (List UInt8) → Option (List StepM)
 | [] => some []
 | w :: l => if goodW (meantS w) w = true then (readAll l).map (meantS w :: ·) else none
def parseS (s : List UInt8) : List StepM × Int :=
 if 1048576 < s.length ∨ 64 ≤ s.count 32 then ([], 5) else if s = [] then ([], 0) else match readAll (splitW 32 s) with
  | some l => (l, 0)
  | none => ([], 4)
end Go.Proofs.YtmkaahkbhdlniaaGreatDoor
/-
 Texts of expressions: written, read back. No program stands here.
-/
namespace Go.Proofs.YtmkaahkbhdlniaaGreatDoor
open Go Go.Lib

theorem parseN_fits (w : List UInt8) : -9223372036854775808 ≤ parseN w ∧ parseN w ≤ 9223372036854775807 := by
 unfold parseN
 split
 ·rename_i v h
  obtain ⟨h1, h2⟩ := parseIntB_bounds h
  simp at h1 h2
  omega
 ·unfold intSat
  split <;> simp
 ·omega
theorem goodW_iff {x : StepM} {w : List UInt8} : goodW x w = true ↔ mayS x = true ∧ wordS x = w := by
 unfold goodW
 rw [Bool.and_eq_true, decide_eq_true_eq]
/-! Words have no blanks. -/
theorem len_flat {f : UInt8 → List UInt8} {k : Nat} (h : ∀ c, (f c).length ≤ k) : ∀ s : List UInt8, (s.flatMap f).length ≤ k * s.length
 | [] => by simp
 | c :: s => by
  have h1 := h c
  have h2 := len_flat h s
  rw [List.flatMap_cons, List.length_append, List.length_cons, Nat.mul_succ]
  omega
theorem itoa_len {n : Int} (h0 : -9223372036854775808 ≤ n) (h1 : n ≤ 9223372036854775807) : (itoa n).length ≤ 20 := by
 unfold itoa
 split
 ·have := decDigits_len 18 n.natAbs (by simp; omega)
  simp; omega
 ·have := decDigits_len 18 n.toNat (by simp; omega)
  omega
/-! Split and join. -/
theorem split_ne (sep : UInt8) : ∀ l : List UInt8, splitW sep l ≠ []
 | [] => by simp [splitW]
 | c :: l => by
  unfold splitW
  split
  ·simp
  ·split <;> simp
theorem split_cons {sep c : UInt8} {l : List UInt8} (h : c ≠ sep) : ∃ w ws, splitW sep l = w :: ws ∧ splitW sep (c :: l) = (c :: w) :: ws := by
 cases e : splitW sep l with
 | nil => exact absurd e (split_ne sep l)
 | cons w ws => exact ⟨w, ws, rfl, by rw [splitW, if_neg h, e]⟩
theorem split_word {sep : UInt8} {w : List UInt8} (h : ∀ c ∈ w, c ≠ sep) : splitW sep w = [w] := by
 induction w with
 | nil => rfl
 | cons c w ih =>
  obtain ⟨a, b, e1, e2⟩ := split_cons (l := w) (h c List.mem_cons_self)
  rw [ih fun x hx => h x (List.mem_cons_of_mem _ hx)] at e1
  injection e1 with e1 e3
  rw [e2, ← e1, ← e3]
theorem split_app {sep : UInt8} {w l : List UInt8} (h : ∀ c ∈ w, c ≠ sep) : splitW sep (w ++ sep :: l) = w :: splitW sep l := by
 induction w with
 | nil => rw [List.nil_append, splitW, if_pos rfl]
 | cons c w ih =>
  obtain ⟨a, b, e1, e2⟩ := split_cons (l := w ++ sep :: l) (h c List.mem_cons_self)
  rw [ih fun x hx => h x (List.mem_cons_of_mem _ hx)] at e1
  injection e1 with e1 e3
  rw [List.cons_append, e2, ← e1, ← e3]
theorem count_split (sep : UInt8) : ∀ l : List UInt8, (splitW sep l).length = l.count sep + 1
 | [] => rfl
 | c :: l => by
  have ih := count_split sep l
  by_cases h : c = sep
  ·rw [splitW, if_pos h, List.length_cons, ih, h, List.count_cons_self]
  ·obtain ⟨w, ws, e1, e2⟩ := split_cons (l := l) h
   rw [e1] at ih
   rw [e2, List.count_cons_of_ne h]
   simpa using ih
end Go.Proofs.YtmkaahkbhdlniaaGreatDoor
/-
 Short names of the commonest rules of a walk.
-/
namespace Go.Mw
section
variable {P : Program} {r : Option Nat} {n : Nat} {ops : Array Oper} {Q : Post} {rest : List Oper} {σ : St} {w w₀ : World} {S : Nat → Prop} {rs : List HP} {put : HP → List HP} {ty : TypeId} {pos : String} {after : Array Edge} {op : Op}
theorem Qn {y : Code} (h : FW P r n y Q σ w) : FL P r n ops (Qseq P r n y Q) [] σ w := FL_nil (Qseq_normal h)
theorem Sr {id : Nat} {l : List Oper} {y : Code} (h : FL P r n l.toArray (Qseq P r n y Q) l σ w) : FW P r n (.seq (.region id l.toArray false) y) Q σ w := FW_seq (FW_region h)
theorem Nx {id : Nat} {l : List Oper} {y : Code} (h : FL P r n l.toArray (Qseq P r n y Q) l σ w) : FL P r n ops (Qseq P r n (.seq (.region id l.toArray false) y) Q) [] σ w := FL_nil (Qseq_normal (FW_seq (FW_region h)))
theorem Sk {y : Code} (h : FW P r n y Q σ w) : FW P r n .skip (Qseq P r n y Q) σ w := FW_skip (Qseq_normal h)
theorem Mv {d : Nat} {x : Operand} {v : Value} (h : FL P r n ops Q rest (upd σ d v) w) (hv : evF σ x = v := by simp only [evF, upd_same, upd_ne, ne_eq, Nat.reduceEqDiff, not_false_eq_true]; rfl) (hd : Nat.blt d n = true := by exact rfl) :
    FL P r n ops Q ({ dst := some d, op := .move x, type := ty, pos := pos, after := after, guard := none } :: rest) σ w := FL_move hv hd h
theorem Am {d : Nat} {x : Operand} {v : Value} (h : FL P r n ops Q rest (upd σ d v) w) (hv : evF σ x = v := by simp only [evF, upd_same, upd_ne, ne_eq, Nat.reduceEqDiff, not_false_eq_true]; rfl) (hd : Nat.blt d n = true := by exact rfl) :
    FL P r n ops Q ({ dst := some d, op := .assign x, type := ty, pos := pos, after := after, guard := none } :: rest) σ w := FL_assign hv hd h
theorem Pt {d : Nat} {x y z : Operand} {v : Value} (h : FL P r n ops Q rest (upd σ d v) w) (hc : evF σ z = .bool true := by exact rfl) (hv : evF σ x = v := by simp only [evF, upd_same, upd_ne, ne_eq, Nat.reduceEqDiff, not_false_eq_true]; rfl) (hd : Nat.blt d n = true := by exact rfl) :
    FL P r n ops Q ({ dst := some d, op := .pick z x y, type := ty, pos := pos, after := after, guard := none } :: rest) σ w := FL_pickT hc hv hd h
theorem Pf {d : Nat} {x y z : Operand} {v : Value} (h : FL P r n ops Q rest (upd σ d v) w) (hc : evF σ z = .bool false := by exact rfl) (hv : evF σ y = v := by simp only [evF, upd_same, upd_ne, ne_eq, Nat.reduceEqDiff, not_false_eq_true]; rfl) (hd : Nat.blt d n = true := by exact rfl) :
    FL P r n ops Q ({ dst := some d, op := .pick z x y, type := ty, pos := pos, after := after, guard := none } :: rest) σ w := FL_pickF hc hv hd h
theorem On {dst : Option Nat} {j : Nat} {b : Bool} {t : Nat} (h : FL P r n ops Q ({ dst := dst, op := op, type := ty, pos := pos, after := after, guard := none } :: rest) σ w) (hj : (ops[j]?).bind (fun o : Oper => o.dst) = some t := by exact rfl) (hb : σ t = .bool b := by exact rfl) :
    FL P r n ops Q ({ dst := dst, op := op, type := ty, pos := pos, after := after, guard := some (j, b) } :: rest) σ w := FL_on hj hb h
theorem Of {dst : Option Nat} {j : Nat} {b : Bool} {t : Nat} (h : FL P r n ops Q rest (updO σ dst undef) w) (hj : (ops[j]?).bind (fun o : Oper => o.dst) = some t := by exact rfl) (hb : σ t = .bool (!b) := by exact rfl) (hd : okDst n dst = true := by exact rfl) :
    FL P r n ops Q ({ dst := dst, op := op, type := ty, pos := pos, after := after, guard := some (j, b) } :: rest) σ w := FL_off hj hb hd h
theorem Ou {dst : Option Nat} {j : Nat} {b : Bool} {t : Nat} (h : FL P r n ops Q rest (updO σ dst undef) w) (hj : (ops[j]?).bind (fun o : Oper => o.dst) = some t := by exact rfl) (hb : σ.get t = undef := by exact rfl) (hd : okDst n dst = true := by exact rfl) :
    FL P r n ops Q ({ dst := dst, op := op, type := ty, pos := pos, after := after, guard := some (j, b) } :: rest) σ w := FL_offU hj hb hd h
theorem Ld {d b o : Nat} {x : Operand} {T : TypeId} [OneCell P T] {cs : List Value} {E : TypeId} {v : Value} (H : Sep w₀ S rs w) (h : FL P r n ops Q rest (upd σ d v) w) (hx : evF σ x = .pointer (some ⟨b, o, none⟩) := by exact rfl) (hat : At rs (blk b cs E) put := by first | exact At0 | exact At1 | exact At2 | exact At3 | exact At4 | exact At5 | exact At6 | exact At7 | exact At8 | exact At9) (hv : cs[o]? = some v := by exact rfl) (hd : Nat.blt d n = true := by exact rfl) :
    FL P r n ops Q ({ dst := some d, op := .load T x, type := ty, pos := pos, after := after, guard := none } :: rest) σ w := FL_load H hx hat hv hd h
section
variable {d : Nat} {x y : Operand} {T U : TypeId} {k : IntKind} {a b : Int}
theorem Ve (h : FL P r n ops Q rest (upd σ d (.bool (decide (a = b)))) w) (hx : evF σ x = .int k a := by exact rfl) (hy : evF σ y = .int k b := by exact rfl) (hd : Nat.blt d n = true := by exact rfl) :
    FL P r n ops Q ({ dst := some d, op := .binOp .eql T x y U, type := ty, pos := pos, after := after, guard := none } :: rest) σ w := FL_val (Gives.eql hx hy) hd h
theorem Vn (h : FL P r n ops Q rest (upd σ d (.bool (decide (a ≠ b)))) w) (hx : evF σ x = .int k a := by exact rfl) (hy : evF σ y = .int k b := by exact rfl) (hd : Nat.blt d n = true := by exact rfl) :
    FL P r n ops Q ({ dst := some d, op := .binOp .neq T x y U, type := ty, pos := pos, after := after, guard := none } :: rest) σ w := FL_val (Gives.neq hx hy) hd h
theorem Vl (h : FL P r n ops Q rest (upd σ d (.bool (decide (a < b)))) w) (hx : evF σ x = .int k a := by exact rfl) (hy : evF σ y = .int k b := by exact rfl) (hd : Nat.blt d n = true := by exact rfl) :
    FL P r n ops Q ({ dst := some d, op := .binOp .lss T x y U, type := ty, pos := pos, after := after, guard := none } :: rest) σ w := FL_val (Gives.lss hx hy) hd h
theorem Vg (h : FL P r n ops Q rest (upd σ d (.bool (decide (b < a)))) w) (hx : evF σ x = .int k a := by exact rfl) (hy : evF σ y = .int k b := by exact rfl) (hd : Nat.blt d n = true := by exact rfl) :
    FL P r n ops Q ({ dst := some d, op := .binOp .gtr T x y U, type := ty, pos := pos, after := after, guard := none } :: rest) σ w := FL_val (Gives.gtr hx hy) hd h
theorem Vx {i : Nat} {vs : Array Value} {v : Value} (h : FL P r n ops Q rest (upd σ d v) w) (hx : evF σ x = .tuple vs := by exact rfl) (hv : vs[i]? = some v := by exact rfl) (hd : Nat.blt d n = true := by exact rfl) :
    FL P r n ops Q ({ dst := some d, op := .extract x i, type := ty, pos := pos, after := after, guard := none } :: rest) σ w := FL_val (Gives.extract hx hv) hd h
theorem Vt {t : TypeId} [IsStr P t] {l : List UInt8} (h : FL P r n ops Q rest (upd σ d (.int .i64 l.length)) w) (hx : evF σ x = str l := by exact rfl) (hd : Nat.blt d n = true := by exact rfl) :
    FL P r n ops Q ({ dst := some d, op := .call { callee := .builtin .len, args := #[x], argTypes := #[t] }, type := ty, pos := pos, after := after, guard := none } :: rest) σ w := FL_val (Gives.lenT hx) hd h
theorem Vs {t e : TypeId} [IsSlice P t e] {A : Option Addr} {m c : Nat} (h : FL P r n ops Q rest (upd σ d (.int .i64 m)) w) (hx : evF σ x = .slice A m c := by exact rfl) (hd : Nat.blt d n = true := by exact rfl) :
    FL P r n ops Q ({ dst := some d, op := .call { callee := .builtin .len, args := #[x], argTypes := #[t] }, type := ty, pos := pos, after := after, guard := none } :: rest) σ w := FL_val (Gives.lenSlice hx) hd h
theorem Vf {s f k b : Nat} [FieldAt P s f k] (h : FL P r n ops Q rest (upd σ d (.pointer (some ⟨b, k, none⟩))) w) (hx : evF σ x = .pointer (some ⟨b, 0, none⟩) := by exact rfl) (hd : Nat.blt d n = true := by exact rfl) :
    FL P r n ops Q ({ dst := some d, op := .fieldAddr s x f, type := ty, pos := pos, after := after, guard := none } :: rest) σ w := FL_val (Gives.field0 hx) hd h
end
end
section
variable {P : Program} {n : Nat} {Q : Post} {σ : St} {w : World} {l : List ResultVar} {R : Value → World → Prop}
theorem Rb {r : Option Nat} {id : Nat} {y : Code} (h : Q .ret σ w) : FW P r n .ret (Qblk id (Qseq P r n y Q)) σ w := FW_ret (Qblk_ret (Qseq_ret h))
theorem Rs {r : Option Nat} {y : Code} (h : Q .ret σ w) : FW P r n .ret (Qseq P r n y Q) σ w := FW_ret (Qseq_ret h)
end
end Go.Mw
