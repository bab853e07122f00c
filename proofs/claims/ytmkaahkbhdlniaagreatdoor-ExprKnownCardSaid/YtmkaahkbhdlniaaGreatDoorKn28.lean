/-
 The program's reader of literals reads as the document tells: plain laws.
-/
import Derived.Test.YtmkaahkbhdlniaaGreatDoorKn27
import Derived.Test.YtmkaahkbhdlniaaGreatDoorKn5
import Derived.Test.YtmkaahkbhdlniaaGreatDoorKn6
set_option linter.unusedVariables false
set_option linter.unusedSimpArgs false
namespace Go.Proofs.YtmkaahkbhdlniaaGreatDoor
open Go Go.Mw Go.Lib
theorem failS_ne (e : Int) : failS e 41 ≠ 0 := by
 unfold failS
 split
 ·decide
 assumption
theorem take_stick {l : List UInt8} {a : Nat} {e : Int} (h : e ≠ 0) : takeS' l a e = (0, a, e) := if_pos h
theorem errD {l : List UInt8} {a : Nat} {e : Int} (h : e ≠ 0) : (digitS l a e).2.2 ≠ 0 := by
 unfold digitS
 rw [take_stick h]
 show (failS e 41) ≠ 0
 exact failS_ne e
theorem errI {e : Int} {p : Prop} [Decidable p] (h : e ≠ 0) : (if p then failS e 41 else e) ≠ 0 := by
 split
 ·exact failS_ne e
 exact h
theorem errW {l : List UInt8} {a : Nat} {e : Int} {c : UInt8} (h : e ≠ 0) : (wantS l a e c).2 ≠ 0 := by
 unfold wantS
 rw [take_stick h]
 dsimp only
 split
 ·exact h
 exact failS_ne e
theorem errH {l : List UInt8} {a : Nat} {e : Int} {s : Bool} (h : e ≠ 0) : (halfS l a e s).2.2 ≠ 0 := by
 unfold halfS
 exact errD (errD (errI (errD (errI (errD h)))))
theorem dig_none {l : List UInt8} {a : Nat} (ha : a ≤ l.length) (h : l[a]? = none) : (digitS l a 0).2.2 ≠ 0 := by
 have : a = l.length := by have := List.getElem?_eq_none_iff.1 h; omega
 unfold digitS takeS'
 rw [if_neg (by simp), if_pos this]
 show failS 3 41 ≠ 0
 exact failS_ne 3
theorem take_some {l : List UInt8} {a : Nat} {c : UInt8} (h : l[a]? = some c) : takeS' l a 0 = (c, a + 1, 0) := by
 have := (List.getElem?_eq_some_iff.1 h).1
 unfold takeS'
 rw [if_neg (by simp), if_neg (by omega), List.getD_eq_getElem?_getD, h]; rfl
theorem dig_bad {l : List UInt8} {a : Nat} {c : UInt8} (h : l[a]? = some c) (hd : digitL c = none) : (digitS l a 0).2.2 ≠ 0 := by
 unfold digitS
 rw [take_some h]
 dsimp only
 rw [hd]
 exact failS_ne 0
theorem dig_ok {l : List UInt8} {a d : Nat} {c : UInt8} (h : l[a]? = some c) (hd : digitL c = some d) : digitS l a 0 = (d, a + 1, 0) := by
 unfold digitS
 rw [take_some h]
 dsimp only
 rw [hd]
theorem half_law {l : List UInt8} {a : Nat} {s : Bool} (ha : a ≤ l.length) : ((halfL (l.drop a) s).2 = 0 → halfS l a 0 s = ((halfL (l.drop a) s).1, a + 4, 0)) ∧ ((halfL (l.drop a) s).2 ≠ 0 → (halfS l a 0 s).2.2 ≠ 0) := by
 unfold halfL
 simp only [List.getElem?_drop, Nat.add_zero]
 unfold halfS
 cases h0 : l[a]? with
 | none => exact ⟨fun h => absurd h (show ¬ (3 : Int) = 0 by decide), fun _ => errD (errD (errI (errD (errI (dig_none ha h0)))))⟩
 | some c0 =>
 have hl0 := (List.getElem?_eq_some_iff.1 h0).1
 dsimp only
 cases g0 : digitL c0 with
 | none => exact ⟨fun h => absurd h (show ¬ (41 : Int) = 0 by decide), fun _ => errD (errD (errI (errD (errI (dig_bad h0 g0)))))⟩
 | some d0 =>
 rw [dig_ok h0 g0]
 dsimp only
 by_cases hs : s = true ∧ d0 ≠ 13
 ·rw [if_pos hs, if_pos hs]
  exact ⟨fun h => absurd h (show ¬ (41 : Int) = 0 by decide), fun _ => errD (errD (errI (errD (failS_ne 0))))⟩
 rw [if_neg hs, if_neg hs]
 cases h1 : l[a + 1]? with
 | none => exact ⟨fun h => absurd h (show ¬ (3 : Int) = 0 by decide), fun _ => errD (errD (errI (dig_none (by omega) h1)))⟩
 | some c1 =>
 have hl1 := (List.getElem?_eq_some_iff.1 h1).1
 dsimp only
 cases g1 : digitL c1 with
 | none => exact ⟨fun h => absurd h (show ¬ (41 : Int) = 0 by decide), fun _ => errD (errD (errI (dig_bad h1 g1)))⟩
 | some d1 =>
 rw [dig_ok h1 g1]
 dsimp only
 by_cases hs2 : s ≠ decide (220 ≤ 16 * d0 + d1 ∧ 16 * d0 + d1 ≤ 223)
 ·rw [if_pos hs2, if_pos hs2]
  exact ⟨fun h => absurd h (show ¬ (41 : Int) = 0 by decide), fun _ => errD (errD (failS_ne 0))⟩
 rw [if_neg hs2, if_neg hs2]
 cases h2 : l[a + 2]? with
 | none => exact ⟨fun h => absurd h (show ¬ (3 : Int) = 0 by decide), fun _ => errD (dig_none (by omega) h2)⟩
 | some c2 =>
 have hl2 := (List.getElem?_eq_some_iff.1 h2).1
 dsimp only
 cases g2 : digitL c2 with
 | none => exact ⟨fun h => absurd h (show ¬ (41 : Int) = 0 by decide), fun _ => errD (dig_bad h2 g2)⟩
 | some d2 =>
 have e2 : digitS l (a + 1 + 1) 0 = (d2, a + 1 + 1 + 1, 0) := dig_ok h2 g2
 rw [e2]
 dsimp only
 cases h3 : l[a + 3]? with
 | none => exact ⟨fun h => absurd h (show ¬ (3 : Int) = 0 by decide), fun _ => dig_none (by omega) h3⟩
 | some c3 =>
 dsimp only
 cases g3 : digitL c3 with
 | none => exact ⟨fun h => absurd h (show ¬ (41 : Int) = 0 by decide), fun _ => dig_bad h3 g3⟩
 | some d3 =>
 have e3 : digitS l (a + 1 + 1 + 1) 0 = (d3, a + 1 + 1 + 1 + 1, 0) := dig_ok h3 g3
 rw [e3]
 exact ⟨fun _ => rfl, fun h => absurd rfl h⟩
theorem encL_bad (r : Nat) (v : Utf8.valid (r : Int) = false) : (Utf8.encode (r : Int)).data.toList = [239, 191, 189] := by
 simp [Utf8.encode, v, Utf8.runeError]
theorem encL_all (r : Nat) : encL (r : Int) = encodeRune (r : Int) := by
 by_cases h : r ≤ 1114111 ∧ (r < 55296 ∨ 57343 < r)
 ·exact encL_eq r h.1 h.2
 have v : Utf8.valid (r : Int) = false := by simp [Utf8.valid]; omega
 rw [encL_of _ _ (encL_bad r v)]
 unfold encodeRune
 rw [encodeRuneZ_bad (by omega)]
 rfl
theorem want_none {l : List UInt8} {a : Nat} {c : UInt8} (ha : a ≤ l.length) (h : l[a]? = none) : (wantS l a 0 c).2 ≠ 0 := by
 have : a = l.length := by have := List.getElem?_eq_none_iff.1 h; omega
 unfold wantS takeS'
 rw [if_neg (by simp), if_pos this]
 dsimp only
 split
 ·decide
 exact failS_ne 3
theorem want_bad {l : List UInt8} {a : Nat} {c x : UInt8} (h : l[a]? = some x) (hne : x ≠ c) : (wantS l a 0 c).2 ≠ 0 := by
 unfold wantS
 rw [take_some h]
 dsimp only
 rw [if_neg hne]
 exact failS_ne 0
theorem want_ok {l : List UInt8} {a : Nat} {c : UInt8} (h : l[a]? = some c) : wantS l a 0 c = (a + 1, 0) := by
 unfold wantS
 rw [take_some h]
 dsimp only
 rw [if_pos rfl]
theorem shortL_eq (c : UInt8) : shortL c = if c = 47 then some 47 else backM c := by
 unfold shortL backM
 by_cases h1 : c = 34
 ·subst h1; rfl
 by_cases h2 : c = 92
 ·subst h2; rfl
 by_cases h3 : c = 47
 ·subst h3; rfl
 simp only [h1, h2, h3, if_false]
theorem back0 : backM 0 = none := by decide
theorem errQ {l : List UInt8} {n : Nat} {g : Nat × Nat × Int} (h : g.2.2 ≠ 0) : (escQ l n g).2.2 ≠ 0 := h
theorem errP {l : List UInt8} {n : Nat} {a : Nat × Int} (h : a.2 ≠ 0) : (escP l n a).2.2 ≠ 0 := errQ (errH (errW h))
theorem errG {l : List UInt8} {h : Nat × Nat × Int} (he : h.2.2 ≠ 0) : (escG l h).2.2 ≠ 0 := by
 unfold escG
 split
 ·exact errP (errW he)
 exact he
attribute [local irreducible] halfS wantS halfL digitS failS
theorem pair_law {l : List UInt8} {i r : Nat} (hi : i + 6 ≤ l.length) (hr : 55296 ≤ r) : ((escT (l.drop i) r).2.2 = 0 → escP l r (wantS l (i + 6) 0 92) = ((escT (l.drop i) r).1, i + (escT (l.drop i) r).2.1, 0)) ∧ ((escT (l.drop i) r).2.2 ≠ 0 → (escP l r (wantS l (i + 6) 0 92)).2.2 ≠ 0) := by
 have hd8 : (l.drop i).drop 8 = l.drop (i + 8) := by rw [List.drop_drop]
 unfold escT
 rw [List.getElem?_drop, List.getElem?_drop, hd8]
 cases h6 : l[i + 6]? with
 | none => exact ⟨fun h => absurd h (show ¬ (3 : Int) = 0 by decide), fun _ => errP (want_none hi h6)⟩
 | some c6 =>
 have hl6 := (List.getElem?_eq_some_iff.1 h6).1
 dsimp only
 by_cases g6 : c6 = 92
 ·subst g6
  rw [if_neg (by simp), want_ok h6]
  cases h7 : l[i + 7]? with
  | none => exact ⟨fun h => absurd h (show ¬ (3 : Int) = 0 by decide), fun _ => errQ (errH (want_none (a := i + 7) (by omega) h7))⟩
  | some c7 =>
  have hl7 := (List.getElem?_eq_some_iff.1 h7).1
  dsimp only
  by_cases g7 : c7 = 117
  ·subst g7
   rw [if_neg (by simp)]
   unfold escP
   have e7 : wantS l (i + 6 + 1) 0 117 = (i + 8, 0) := want_ok h7
   dsimp only
   rw [e7]
   obtain ⟨la, lb⟩ := half_law (l := l) (a := i + 8) (s := true) (by omega)
   by_cases he : (halfL (l.drop (i + 8)) true).2 ≠ 0
   ·rw [if_pos he]
    exact ⟨fun h => absurd h he, fun _ => errQ (lb he)⟩
   rw [if_neg he]
   have hq := la (Classical.not_not.1 he)
   dsimp only
   rw [hq]
   refine ⟨fun _ => ?_, fun h => (h (by dsimp only)).elim⟩
   unfold escQ
   dsimp only
   rw [if_neg (by simp)]
   have e : 65536 + 1024 * ((r : Int) - 55296) + ((halfL (l.drop (i + 8)) true).1 : Int) - 56320 = ((65536 + 1024 * (r - 55296) + (halfL (l.drop (i + 8)) true).1 - 56320 : Nat) : Int) := by omega
   rw [e, encL_all]
  rw [if_pos g7]
  exact ⟨fun h => absurd h (show ¬ (41 : Int) = 0 by decide), fun _ => errQ (errH (want_bad (a := i + 7) h7 g7))⟩
 rw [if_pos g6]
 exact ⟨fun h => absurd h (show ¬ (41 : Int) = 0 by decide), fun _ => errP (want_bad h6 g6)⟩
theorem half_len {l : List UInt8} {s : Bool} (h : (halfL l s).2 = 0) : 4 ≤ l.length := by
 unfold halfL at h
 cases h0 : l[0]? with
 | none => rw [h0] at h; cases h
 | some c0 =>
 cases h3 : l[3]? with
 | some c3 => have := (List.getElem?_eq_some_iff.1 h3).1; omega
 | none =>
  exfalso
  simp only [h0, h3] at h
  repeat' split at h
  all_goals first | cases h | exact absurd h (by decide)
theorem esc_law {l : List UInt8} {i : Nat} (hi : i < l.length) : ((escL (l.drop i)).2.2 = 0 → escS l (i + 1) 0 = ((escL (l.drop i)).1, i + (escL (l.drop i)).2.1, 0)) ∧ ((escL (l.drop i)).2.2 ≠ 0 → (escS l (i + 1) 0).2.2 ≠ 0) := by
 have hd2 : (l.drop i).drop 2 = l.drop (i + 2) := by rw [List.drop_drop]
 unfold escL escS
 rw [List.getElem?_drop, hd2]
 cases h1 : l[i + 1]? with
 | none =>
  have e1 : i + 1 = l.length := by have := List.getElem?_eq_none_iff.1 h1; omega
  have e2 : takeS' l (i + 1) 0 = (0, i + 1, 3) := by unfold takeS'; rw [if_neg (by simp), if_pos e1]
  refine ⟨fun h => absurd h (show ¬ (3 : Int) = 0 by decide), fun _ => ?_⟩
  rw [e2]
  unfold escT'
  dsimp only
  rw [if_neg (show ¬ (0 : UInt8) = 47 by decide), back0]
  exact errG (errH (by rw [if_neg (show ¬ (0 : UInt8) = 117 by decide)]; exact failS_ne 3))
 | some c =>
 have hl1 := (List.getElem?_eq_some_iff.1 h1).1
 rw [take_some h1]
 unfold escT'
 dsimp only
 rw [shortL_eq]
 by_cases h47 : c = 47
 ·rw [if_pos h47, if_pos h47]
  subst h47
  exact ⟨fun _ => by dsimp only, fun h => (h (by dsimp only)).elim⟩
 rw [if_neg h47, if_neg h47]
 cases hb : backM c with
 | some k => exact ⟨fun _ => by dsimp only, fun h => (h (by dsimp only)).elim⟩
 | none =>
 dsimp only
 by_cases h117 : c = 117
 ·rw [if_neg (by simp [h117]), if_pos h117]
  obtain ⟨la, lb⟩ := half_law (l := l) (a := i + 2) (s := false) (by omega)
  by_cases he : (halfL (l.drop (i + 2)) false).2 ≠ 0
  ·rw [if_pos he]
   exact ⟨fun h => absurd h he, fun _ => errG (lb he)⟩
  rw [if_neg he]
  have hh := half_len (Classical.not_not.1 he)
  rw [List.length_drop] at hh
  have hq : halfS l (i + 1 + 1) 0 false = ((halfL (l.drop (i + 2)) false).1, i + 6, 0) := la (Classical.not_not.1 he)
  rw [hq]
  unfold escG
  dsimp only
  generalize (halfL (l.drop (i + 2)) false).1 = r at hq
  by_cases hr : r < 55296 ∨ 56319 < r
  ·rw [if_pos hr, if_neg (by omega), if_neg (by simp), encL_all]
   exact ⟨fun _ => by dsimp only, fun h => (h (by dsimp only)).elim⟩
  rw [if_neg hr, if_pos (by omega)]
  exact pair_law (by omega) (by omega)
 rw [if_pos h117, if_neg h117]
 exact ⟨fun h => absurd h (show ¬ (41 : Int) = 0 by decide), fun _ => errG (errH (failS_ne 0))⟩
end Go.Proofs.YtmkaahkbhdlniaaGreatDoor
namespace Go.Proofs.YtmkaahkbhdlniaaGreatDoor
open Go Go.Mw Go.Lib
set_option maxRecDepth 4000
theorem fail03 : failS 0 3 = 3 := rfl
theorem unqL_want {l : List UInt8} : (unqL l).1 = if (wantS l 0 0 34).2 = 0 then (unqAt l (wantS l 0 0 34).1 []).1 else [] := by
 cases l with
 | nil => rfl
 | cons c t =>
  by_cases h : c = 34
  ·subst h
   rw [want_ok (l := 34 :: t) (a := 0) rfl, if_pos rfl]
   rfl
  rw [if_neg (want_bad (l := c :: t) (a := 0) rfl h)]
  show (if c ≠ 34 then (([], 0, 41) : List UInt8 × Nat × Int) else unqR (t.length + 1) t 1 []).1 = []
  rw [if_pos h]
theorem unq_quote {l : List UInt8} {i : Nat} {out : List UInt8} (h : i < l.length) (hc : l.getD i 0 = 34) : (unqAt l i out).1 = out := by
 rw [unqAt_step h hc.symm, if_pos rfl]
theorem unq_esc {l : List UInt8} {i : Nat} {out : List UInt8} (h : i < l.length) (hc : l.getD i 0 = 92) : ((escS l (i + 1) 0).2.2 = 0 → (unqAt l i out).1 = (unqAt l (escS l (i + 1) 0).2.1 (out ++ (escS l (i + 1) 0).1)).1) ∧ ((escS l (i + 1) 0).2.2 ≠ 0 → (unqAt l i out).1 = []) := by
 obtain ⟨ha, hb⟩ := esc_law h
 have hs := unqAt_step (out := out) h hc.symm
 rw [if_neg (by decide), if_neg (by decide), if_pos rfl] at hs
 by_cases he : (escL (l.drop i)).2.2 = 0
 ·have hq := ha he
  rw [if_neg (by simp [he])] at hs
  rw [hs, hq]
  exact ⟨fun _ => rfl, fun h => absurd rfl h⟩
 rw [if_pos he] at hs
 have hq := hb he
 rw [hs]
 exact ⟨fun h => absurd h hq, fun _ => rfl⟩
theorem unq_plain {l : List UInt8} {i : Nat} {out : List UInt8} (h : i < l.length) (h34 : l.getD i 0 ≠ 34) (h92 : l.getD i 0 ≠ 92) : ((plainS l i).2.2 = true → (unqAt l i out).1 = (unqAt l (plainS l i).2.1 (out ++ (plainS l i).1)).1) ∧ ((plainS l i).2.2 = false → (unqAt l i out).1 = []) := by
 have hs := unqAt_step (out := out) h rfl
 rw [if_neg h34] at hs
 unfold plainS
 by_cases h32 : (l.getD i 0).toNat < 32
 ·rw [if_pos h32]
  rw [if_pos (UInt8.lt_iff_toNat_lt.2 h32)] at hs
  rw [hs]
  exact ⟨fun h => by (dsimp only at h; cases h), fun _ => rfl⟩
 rw [if_neg h32]
 rw [if_neg (fun h => h32 (UInt8.lt_iff_toNat_lt.1 h)), if_neg h92] at hs
 cases hn : nextL (l.drop i) with
 | none =>
  rw [hn] at hs
  rw [hs, if_neg (by simp)]
  exact ⟨fun h => by (dsimp only at h; cases h), fun _ => rfl⟩
 | some p =>
  obtain ⟨r, n⟩ := p
  have hnp : nextP (l.drop i) = (r, n) := by unfold nextP; rw [hn]; rfl
  rw [hn, hnp, if_pos (by simp)] at hs
  rw [hs]
  exact ⟨fun _ => rfl, fun h => by (dsimp only at h; cases h)⟩
theorem encL_len (r : Int) : (encL r).length ≤ 4 := by
 unfold encL Utf8.encode
 dsimp only
 repeat' split
 all_goals simp
attribute [local irreducible] halfS wantS digitS failS takeS'
theorem esc_bounds {l : List UInt8} {a : Nat} {e : Int} (ha : a ≤ l.length) : (escS l a e).1.length ≤ 4 ∧ (escS l a e).2.1 ≤ l.length := by
 have ht := take_at (e := e) ha
 unfold escS escT'
 split
 ·exact ⟨by simp, ht⟩
 split
 ·exact ⟨by simp, ht⟩
 have hh := half_at (e := if (takeS' l a e).1 = 117 then (takeS' l a e).2.2 else failS (takeS' l a e).2.2 41) (s := false) ht
 generalize halfS l (takeS' l a e).2.1 (if (takeS' l a e).1 = 117 then (takeS' l a e).2.2 else failS (takeS' l a e).2.2 41) false = h at *
 unfold escG
 split
 ·refine ⟨?_, half_at (want_at (want_at hh))⟩
  unfold escP escQ
  dsimp only
  split
  ·simp
  exact encL_len _
 refine ⟨?_, hh⟩
 dsimp only
 split
 ·simp
 exact encL_len _
theorem take_adv (l : List UInt8) (a : Nat) (e : Int) : a ≤ (takeS' l a e).2.1 := by
 unfold takeS'
 split
 ·exact Nat.le_refl _
 split
 ·exact Nat.le_refl _
 dsimp only; omega
theorem digit_adv (l : List UInt8) (a : Nat) (e : Int) : a ≤ (digitS l a e).2.1 := by
 unfold digitS
 split <;> exact take_adv l a e
theorem half_adv (l : List UInt8) (a : Nat) (e : Int) (s : Bool) : a ≤ (halfS l a e s).2.1 := by
 unfold halfS
 exact Nat.le_trans (Nat.le_trans (Nat.le_trans (digit_adv l a e) (digit_adv l _ _)) (digit_adv l _ _)) (digit_adv l _ _)
theorem want_adv (l : List UInt8) (a : Nat) (e : Int) (c : UInt8) : a ≤ (wantS l a e c).1 := by
 unfold wantS
 exact take_adv l a e
theorem esc_adv {l : List UInt8} {a : Nat} {e : Int} : a ≤ (escS l a e).2.1 := by
 have ht := take_adv l a e
 unfold escS escT'
 split
 ·exact ht
 split
 ·exact ht
 have hh := half_adv l (takeS' l a e).2.1 (if (takeS' l a e).1 = 117 then (takeS' l a e).2.2 else failS (takeS' l a e).2.2 41) false
 generalize halfS l (takeS' l a e).2.1 (if (takeS' l a e).1 = 117 then (takeS' l a e).2.2 else failS (takeS' l a e).2.2 41) false = h at *
 unfold escG
 split
 ·unfold escP escQ
  dsimp only
  exact Nat.le_trans (Nat.le_trans (Nat.le_trans (Nat.le_trans ht hh) (want_adv l _ _ _)) (want_adv l _ _ _)) (half_adv l _ _ _)
 exact Nat.le_trans ht hh
theorem plain_bounds {l : List UInt8} {i : Nat} (hi : i < l.length) : (plainS l i).1.length ≤ 4 * ((plainS l i).2.1 - i) ∧ i ≤ (plainS l i).2.1 ∧ (plainS l i).2.1 ≤ l.length ∧ ((plainS l i).2.2 = true → i < (plainS l i).2.1) := by
 unfold plainS
 split
 ·exact ⟨by simp, Nat.le_refl _, by dsimp only; omega, fun h => by cases h⟩
 split
 ·rename_i r n hn
  obtain ⟨_, h1, h2, _⟩ := next_some hn
  rw [List.length_drop] at h2
  dsimp only
  rw [List.length_take, List.length_drop]
  exact ⟨by omega, by omega, by omega, fun _ => by omega⟩
 exact ⟨by simp, Nat.le_refl _, by dsimp only; omega, fun h => by cases h⟩
section
variable {w : World}
theorem unquoteE_ok (l : List UInt8) (hl : l.length ≤ 1000000) (hT : TabsX w) : Rets Tryz.prog 143 [str l] w fun v w' => (∃ n e, v = .tuple #[str (unqL l).1, I n, I e]) ∧ Kept noB w w' := by
 have H := Sep.start0 w
 obtain ⟨res, hres⟩ : ∃ res, res = (unqL l).1 := ⟨_, rfl⟩
 have hres0 := hres
 rw [unqL_want] at hres
 have hw0 := want_at (l := l) (at_ := 0) (e := 0) (c := 34) (Nat.zero_le _)
 rw [← hres0]
 refine rets1 Tryz.func143 rfl rfl rfl rfl ?_
 refine Sr (Am ?_)
 refine Am ?_
 refine Am ?_
 refine Nx (Mv ?_)
 refine Vv (Gives.build (out := [str l, I 0, I 0]) (Fills.one rfl rfl rfl (by simp) rfl Fills.nil)) (FL_box H (cs := [str l, I 0, I 0]) rfl (h := fun b5 w7 H7 k6 => ?_))
 refine Am ?_
 refine Nx (Mv ?_)
 obtain ⟨F0, hp0, hS0, hput0⟩ := H7.focus At0
 refine FL_call (want_ok' (l := l) (at_ := 0) (e := 0) 34 hp0 hl (Nat.zero_le _)) rfl rfl (fun v' w11 hv => ?_)
 obtain ⟨rfl, hkk, F1, hq, hs⟩ := hv
 have H11 := hput0 _ F1 _ hkk hq hs
 refine Nx (FL_alloc H11 (h := fun b6 w13 H13 k12 => ?_))
 replace H13 := Sep.newB H13
 refine Qn (FW_seq (FW_block (FW_loop' (fun _ : Nat × Int × List UInt8 => [(0, str l), (5, selfP b5), (6, selfP b6)]) (fun x w' => (x.1 ≤ l.length ∧ x.2.2.length ≤ 4 * x.1 ∧ res = if x.2.1 = 0 then (unqAt l x.1 x.2.2).1 else []) ∧ Sep w noB [bldH b6 x.2.2, rdrH b5 l x.1 x.2.1] w') (fun x _ => if x.2.1 = 0 then l.length - x.1 + 1 else 0) ((wantS l 0 0 34).1, (wantS l 0 0 34).2, []) ⟨rfl, rfl, rfl, trivial⟩ ⟨⟨hw0, by simp, hres⟩, H13⟩ (fun x τ w15 hI => ?_))))
 obtain ⟨i, e, out⟩ := x
 obtain ⟨⟨hi, hol, hst⟩, H15⟩ := hI
 dsimp only at hi hol hst H15
 unfold rdrH at H15
 try simp only [upds, like, upd_ds, und_ds]
 refine FW_seq (Sr (Mv ?_))
 refine Vv (Gives.nilCheck rfl) (Vf ?_)
 refine Ld H15 ?_
 refine Ve ?_
 refine Qn (Cp rfl (fun hc21 => ?_) (fun hc21 => ?_))
 ·have he0 : e = 0 := hc21
  subst he0
  rw [if_pos rfl] at hst
  refine Sk (FW_block (FW_block (Sr (Mv ?_))))
  refine Vv (Gives.nilCheck rfl) (Vf ?_)
  refine Ld H15 ?_
  refine Mv ?_
  refine Vt ?_
  refine Ve ?_
  refine Am ?_
  refine Qn (Cp rfl (fun hc31 => ?_) (fun hc31 => ?_))
  ·have hil : i = l.length := by omega
   have hres1 : res = [] := by rw [hst, unqAt_end (by omega)]
   refine FW_region (Mv ?_)
   obtain ⟨F0, hp0, hS0, hput0⟩ := H15.focus At1
   refine FL_call (fail_ok (l := l) (e := 0) 3 hp0) rfl rfl (fun v' w35 hv => ?_)
   obtain ⟨rfl, hkk, F1, hq, hs⟩ := hv
   have H35 := hput0 _ F1 _ hkk hq hs
   rw [fail03] at H35
   refine FL_nil (Qblk_normal (Qblk_normal ?_))
   exact Qround_normal (i, 3, out) ⟨rfl, rfl, rfl, trivial⟩ ⟨⟨hi, hol, by rw [hres1]; rfl⟩, H35⟩ (by show 0 < (if (0 : Int) = 0 then _ else _); rw [if_pos rfl]; omega)
  have hlt : i < l.length := by omega
  refine Sr (Mv ?_)
  refine Mv ?_
  refine Vv (Gives.nilCheck rfl) (Vf ?_)
  refine Ld H15 ?_
  refine Vv (Gives.idxD rfl rfl (by omega)) (Ve ?_)
  refine Am ?_
  refine Qn (Cp rfl (fun hc46 => ?_) (fun hc46 => ?_))
  ·have hc34 : l.getD i 0 = 34 := UInt8.toNat_inj.1 (by have h := hc46; show (l.getD i 0).toNat = 34; omega)
   rw [unq_quote hlt hc34] at hst
   refine FW_seq (FW_drawS rfl H15 (h := fun hok48 w50 H50 => ?_))
   refine Gm hok48 1 ?_
   refine Gp hok48 2 rfl rfl (fun _ => (Gives.nilCheck rfl)) (Gp hok48 3 rfl rfl (fun _ => (Gives.field0 rfl)) ?_)
   refine FGload hok48 4 H50 (h := ?_)
   refine Gp hok48 5 rfl rfl (fun _ => (Gives.addI rfl rfl rfl (by omega))) ?_
   obtain ⟨F0, hp0, hS0, hput0⟩ := H50.focus At0
   refine FGcall hok48 0 [(5, true), (4, false), (3, true), (2, true), (1, true)] rfl (by kernel_rfl) (string_ok hp0 (by omega)) rfl (by kernel_rfl) (by kernel_rfl) (fun v' w56 hv => ?_)
   obtain ⟨rfl, hkk, F1, hq, hs⟩ := hv
   have H56 := hput0 _ F1 _ hkk hq hs
   refine ⟨Stab_pure (Stab_load H56 (h := Stab_pure (Stab_pure (Stab_pure (Stab_nil))))), ?_⟩
   refine Gp hok48 6 rfl rfl (fun _ => Gives.assign rfl) (Gp hok48 7 rfl rfl (fun _ => Gives.assign rfl) ?_)
   refine Gp hok48 8 rfl rfl (fun _ => Gives.assign rfl) (FG_end hok48 (by kernel_rfl) ?_)
   refine Qseq_normal (FW_ret (Qblk_ret (Qblk_ret (Qround_ret (Qblk_ret (Qseq_ret (Qfn_ret (hR := ?_))))))))
   exact ⟨⟨_, _, by rw [hst]; rfl⟩, H56.kept⟩
  have hc34 : l.getD i 0 ≠ 34 := fun h => hc46 (by rw [h]; rfl)
  refine Sr (Mv ?_)
  refine Mv ?_
  refine Vv (Gives.nilCheck rfl) (Vf ?_)
  refine Ld H15 ?_
  refine Vv (Gives.idxD rfl rfl (by omega)) (Ve ?_)
  refine Am ?_
  refine Qn (Cp rfl (fun hc70 => ?_) (fun hc70 => ?_))
  ·have hc92 : l.getD i 0 = 92 := UInt8.toNat_inj.1 (by have h := hc70; show (l.getD i 0).toNat = 92; omega)
   obtain ⟨hq1, hq2⟩ := unq_esc (out := out) hlt hc92
   rw [← hst] at hq1 hq2
   obtain ⟨hb1, hb2⟩ := esc_bounds (l := l) (a := i + 1) (e := 0) (by omega)
   have hadv := esc_adv (l := l) (a := i + 1) (e := 0)
   obtain ⟨q, hq⟩ : ∃ q, q = escS l (i + 1) 0 := ⟨_, rfl⟩
   rw [← hq] at hq1 hq2 hb1 hb2 hadv
   have hif : res = if q.2.2 = 0 then (unqAt l q.2.1 (out ++ q.1)).1 else [] := by
    split
    ·exact hq1 (by assumption)
    exact hq2 (by assumption)
   refine Sr (Mv ?_)
   refine Vv (Gives.nilCheck rfl) (Vf ?_)
   refine Ld H15 ?_
   refine Vv (Gives.addI (c := ((i + 1 : Nat) : Int)) rfl rfl (by omega) (by omega)) (Vv (Gives.nilCheck rfl) ?_)
   refine Vf ?_
   refine FL_store H15 (h := fun w80 H80 => ?_)
   refine Qn (FW_region (Mv ?_))
   obtain ⟨F0, hp0, hS0, hput0⟩ := H80.focus At1
   refine FL_call (escape_ok' (l := l) (at_ := i + 1) (e := 0) hp0 hl (by omega)) rfl rfl (fun v' w83 hv => ?_)
   obtain ⟨rfl, hkk, F1, hq', hs⟩ := hv
   have H83 := hput0 _ F1 _ hkk hq' hs
   rw [← hq]
   rw [← hq] at H83
   obtain ⟨F0, hp0, hS0, hput0⟩ := H83.focus At0
   refine FL_call (writeString_any hp0 (by omega)) rfl rfl (fun v' w85 hv => ?_)
   obtain ⟨rfl, hkk, F1, hq', hs⟩ := hv
   have H85 := hput0 _ F1 _ hkk hq' hs
   refine FL_nil (Qblk_normal (Qblk_normal ?_))
   exact Qround_normal (q.2.1, q.2.2, out ++ q.1) ⟨rfl, rfl, rfl, trivial⟩ ⟨⟨hb2, by dsimp only; rw [List.length_append]; omega, hif⟩, H85⟩ (by dsimp only; rw [if_pos rfl]; split <;> omega)
  have hc92 : l.getD i 0 ≠ 92 := fun h => hc70 (by rw [h]; rfl)
  obtain ⟨hq1, hq2⟩ := unq_plain (out := out) hlt hc34 hc92
  rw [← hst] at hq1 hq2
  obtain ⟨hb1, hb3, hb2, hadv⟩ := plain_bounds hlt
  obtain ⟨q, hq⟩ : ∃ q, q = plainS l i := ⟨_, rfl⟩
  rw [← hq] at hq1 hq2 hb1 hb2 hb3 hadv
  refine FW_region (Mv ?_)
  obtain ⟨F0, hp0, hS0, hput0⟩ := H15.focus At1
  refine FL_call (plain_ok' (l := l) (at_ := i) hp0 hl hlt (hT.keep H15.kept).utf) rfl rfl (fun v' w90 hv => ?_)
  obtain ⟨x1, rfl, hx1, hkk, F1, hq', hs⟩ := hv
  have H90 := hput0 _ F1 _ hkk hq' hs
  rw [← hq] at hx1
  rw [← hq]
  rw [← hq] at H90
  have hif : res = if x1 = 0 then (unqAt l q.2.1 (out ++ q.1)).1 else [] := by
   split
   ·exact hq1 (hx1.2 (by assumption))
   rename_i h0
   cases hb : q.2.2 with
   | true => exact absurd (hx1.1 hb) h0
   | false => exact hq2 hb
  have hms : (if x1 = 0 then l.length - q.2.1 + 1 else 0) < l.length - i + 1 := by
   split
   ·have := hadv (hx1.2 (by assumption)); omega
   omega
  obtain ⟨F0, hp0, hS0, hput0⟩ := H90.focus At0
  refine FL_call (writeString_any hp0 (by omega)) rfl rfl (fun v' w92 hv => ?_)
  obtain ⟨rfl, hkk, F1, hq', hs⟩ := hv
  have H92 := hput0 _ F1 _ hkk hq' hs
  refine FL_nil (Qblk_normal (Qblk_normal ?_))
  exact Qround_normal (q.2.1, x1, out ++ q.1) ⟨rfl, rfl, rfl, trivial⟩ ⟨⟨hb2, by dsimp only; rw [List.length_append]; omega, hif⟩, H92⟩ (by dsimp only; rw [if_pos rfl]; exact hms)
 have hres1 : res = [] := by rw [hst, if_neg hc21]
 refine FW_exit (Qseq_exit (Qround_exit (Qblk_exit (Qseq_normal (FW_seq (FW_drawS rfl H15 (h := fun hok95 w97 H97 => ?_)))))))
 refine Gm hok95 0 ?_
 refine Gp hok95 1 rfl rfl (fun _ => (Gives.nilCheck rfl)) (Gp hok95 2 rfl rfl (fun _ => (Gives.field0 rfl)) ?_)
 refine FGload hok95 3 H97 (h := ?_)
 refine Gp hok95 4 rfl rfl (fun _ => Gives.assign rfl) (Gp hok95 5 rfl rfl (fun _ => Gives.assign rfl) ?_)
 refine Gp hok95 6 rfl rfl (fun _ => Gives.assign rfl) (FG_end hok95 (by kernel_rfl) ?_)
 refine Qseq_normal (FW_ret (Qfn_ret (hR := ?_)))
 exact ⟨⟨_, _, by rw [hres1]; rfl⟩, H97.kept⟩
end
theorem nullM_some {w : List UInt8} {k : Int} (hw : w ≠ []) (h1 : 1 ≤ k) (h5 : k ≤ 5) (h : ∀ j : Int, 1 ≤ j → j < k → nullW j ≠ w) (hk : nullW k = w) : [1, 3, 4, 5].find? (fun k : Int => decide (nullW k = w)) = some k := by
 have hd : ∀ j : Int, 1 ≤ j → j < k → decide (nullW j = w) = false := fun j a b => decide_eq_false (h j a b)
 have hk' : decide (nullW k = w) = true := decide_eq_true hk
 rcases (by omega : k = 1 ∨ k = 2 ∨ k = 3 ∨ k = 4 ∨ k = 5) with e | e | e | e | e <;> subst e
 ·simp only [List.find?_cons, hk']
 ·exact absurd hk.symm hw
 ·simp only [List.find?_cons, hd 1 (by omega) (by omega), hk']
 ·simp only [List.find?_cons, hd 1 (by omega) (by omega), hd 3 (by omega) (by omega), hk']
 simp only [List.find?_cons, hd 1 (by omega) (by omega), hd 3 (by omega) (by omega), hd 4 (by omega) (by omega), hk']
theorem nullM_none {w : List UInt8} (h : ∀ k : Int, 1 ≤ k → k < 6 → nullW k ≠ w) : [1, 3, 4, 5].find? (fun k : Int => decide (nullW k = w)) = none := by
 rw [List.find?_eq_none]
 intro k hk
 simp only [List.mem_cons, List.not_mem_nil, or_false] at hk
 have := h k (by omega) (by omega)
 simpa using this
theorem nullM_nil : [1, 3, 4, 5].find? (fun k : Int => decide (nullW k = [])) = none := by decide
theorem prefix_one (w : List UInt8) (c : UInt8) : Lib.hasPrefix w [c] = decide (w.head? = some c) := by
 unfold Lib.hasPrefix
 cases w with
 | nil => rfl
 | cons x t =>
  by_cases h : c = x
  ·subst h; simp [List.isPrefixOf]
  have h' : ¬ x = c := fun e => h e.symm
  simp [List.isPrefixOf, h, h']
theorem findGet {p : List UInt8 → Bool} {i : Nat} (h : signsW.findIdx? p = some i) : signsW[i]? = signsW[i]? ∧ i < 12 := by
 obtain ⟨h1, _⟩ := List.findIdx?_eq_some_iff_getElem.1 h
 exact ⟨rfl, h1⟩
section
variable {w : World}
theorem parseInt_ok (l : List UInt8) (hl : l.length ≤ 1000000) (hT : TabsX w) : Rets Tryz.prog 142 [str l, I 10, I 64] w fun v w' => (∃ e, v = .tuple #[I (parseN l), e]) ∧ Kept noB w w' := by
 have hs : (⟨l.toArray⟩ : ByteArray).size = l.length := Mw.size_mk l
 cases h : Lib.parseIntB 64 l
 ·rename_i v
  have hn : parseN l = v := by unfold parseN; rw [h]
  rw [hn]
  exact Calls.mono (Tryz.strconv_ParseInt_10_at64_ok ⟨l.toArray⟩ (by rw [hs]; omega) v h w) fun e w' he => by
   obtain ⟨rfl, hw⟩ := he
   refine ⟨⟨_, rfl⟩, ?_⟩
   rcases hw with rfl | ⟨t, rfl⟩
   ·exact Kept.refl _ _
   exact Kept.of_below (Lib.bytesWorld_below _ _ _)
 ·skip
  have hn : parseN l = 0 := by unfold parseN; rw [h]
  rw [hn]
  obtain ⟨tp, p, hv⟩ := hT.syn
  exact Calls.mono (Tryz.strconv_ParseInt_10_at64_syntax_var ⟨l.toArray⟩ (by rw [hs]; omega) h rfl tp p w hv) fun e w' he => by
   obtain ⟨N, rfl, _, _, hb⟩ := he
   exact ⟨⟨_, rfl⟩, Kept.of_below hb⟩
 ·skip
  have hn : parseN l = Lib.intSat 64 l := by unfold parseN; rw [h]
  rw [hn]
  obtain ⟨tp, p, hv⟩ := hT.ran
  exact Calls.mono (Tryz.strconv_ParseInt_10_at64_range_var ⟨l.toArray⟩ (by rw [hs]; omega) h tp p w hv) fun e w' he => by
   obtain ⟨N, rfl, _, _, hb⟩ := he
   exact ⟨⟨_, rfl⟩, Kept.of_below hb⟩
theorem hasPrefix_ok (l : List UInt8) (c : UInt8) : Rets Tryz.prog 76 [str l, str [c]] w fun v w' => v = .bool (decide (l.head? = some c)) ∧ w = w' :=
 rets_same (by
  have := Tryz.strings_HasPrefix ⟨l.toArray⟩ ⟨[c].toArray⟩ w
  rw [← prefix_one]
  exact this)
theorem meantE_ok (s : List UInt8) (hl : s.length ≤ 1000000) (hT : TabsX w) : Rets Tryz.prog 70 [str s] w fun v w' => v = agg (stepCells (meantS s)) ∧ Kept noB w w' := by
  have H := Sep.start0 w
  obtain ⟨res, hres⟩ : ∃ res, res = meantS s := ⟨_, rfl⟩
  rw [← hres]
  unfold meantS at hres
  obtain ⟨ix, hix⟩ : ∃ ix, ix = signsW.findIdx? (fun x => decide (x = s)) := ⟨_, rfl⟩
  have hix2 : signsW.findIdx? (fun y => decide (s = y)) = ix := by
    rw [hix]
    exact congrArg (fun p => signsW.findIdx? p) (funext fun y => decide_eq_decide.2 eq_comm)
  rw [← hix] at hres
  refine retsC1 Tryz.func70 rfl rfl rfl rfl ?_
  refine Sr (FL_alloc H (h := fun b1 w2 H2 k1 => ?_))
  refine Qn (FW_seq (Sr (FL_call (signs_ok) rfl rfl (fun v' w4 hv => ?_))))
  obtain ⟨bs, rfl, _, hkk, F1, hq, hsub⟩ := hv
  have H4 := H2.new hkk hq (fun b hb => (hsub b hb).resolve_left id)
  have hR : Rd w4 (some ⟨bs, 0, none⟩) textCells 1 signsW := Sep.blkRow H4 At0 rfl
  have hRI : RowIn w4 (.slice (some ⟨bs, 0, none⟩) 12 12) textCells 1 signsW := ⟨some ⟨bs, 0, none⟩, 12, rfl, ⟨Nat.le_refl _, by decide⟩, hR⟩
  refine Mv ?_
  refine FL_callQ H4 (textsI_ok s hRI) (h := fun w7 H7 k6 => ?_)
  rw [hix2]
  refine Am ?_
  refine Nx (Mv ?_)
  refine Vv (Gives.geq rfl rfl) (Qn ?_)
  refine Cp rfl (fun hc11 => ?_) (fun hc11 => ?_)
  · obtain ⟨i, hi⟩ : ∃ i : Nat, ix = some i := by
      cases ix with
      | some i => exact ⟨i, rfl⟩
      | none => exact absurd hc11 (by decide)
    have hidx : idxI ix = (i : Int) := by rw [hi]; rfl
    rw [hi] at hres
    dsimp only at hres
    refine Sr (Mv ?_)
    rw [hidx]
    refine Vv (Gives.addI (c := (7 + (i : Int))) rfl rfl rfl (by have := (findGet (hix.symm.trans hi)).2; omega)) (Vv (Gives.build (out := stepCells ⟨7 + (i : Int), 0, []⟩) (Fills.one rfl rfl rfl (by simp) rfl Fills.nil)) ?_)
    refine FL_storeAll H7 (h := fun w17 H17 => ?_)
    refine Qn (Rs (QfnC_ret (h := ?_)))
    exact ⟨_, resC1 H17, by rw [hres]; rfl, H17.kept⟩
  have hi : ix = none := by
    cases ix with
    | none => rfl
    | some i => exact absurd (show idxI (some i) ≥ 0 from Int.natCast_nonneg i) hc11
  rw [hi] at hres
  dsimp only at hres
  refine Sk (FW_seq (Sr (Am ?_)))
  refine Qn (FW_block (FW_loop' (fun k : Nat => [(0, str s), (2, .pointer (some ⟨b1, 0, none⟩)), (4, I k)]) (fun k w' => (1 ≤ k ∧ k ≤ 6 ∧ ∀ j : Int, 1 ≤ j → j < k → s ≠ [] → nullW j ≠ s) ∧ Sep w noB [blk b1 (stepCells ⟨0, 0, []⟩) 57] w') (fun k _ => 6 - k) 1 ⟨rfl, rfl, rfl, trivial⟩ ⟨⟨Nat.le_refl _, by decide, fun j a b => absurd b (by omega)⟩, (H7.front1).firsts (l := [_])⟩ (fun k τ w22 hI => ?_)))
  obtain ⟨⟨hk1, hk6, hnb⟩, H22⟩ := hI
  try simp only [upds, like, upd_ds, und_ds]
  refine FW_seq (Sr (Mv ?_))
  refine Vv (Gives.leq rfl rfl) (Qn ?_)
  refine Cp rfl (fun hc25 => ?_) (fun hc25 => ?_)
  · refine Sk (FW_seq (FW_block (Sr (Mv ?_))))
    refine Vv (Gives.neqT rfl rfl) (Mv ?_)
    refine FL_splitP (t := 28) rfl (fun hs29 => ?_) (fun hs29 => ?_)
    · have hs0 : s ≠ [] := hs29
      refine On (Mv ?_)
      refine On (Mv ?_)
      refine On (FL_callQ H22 (null_ok (k : Int)) (h := fun w34 H34 k33 => ?_))
      refine On (Vv (Gives.eqlT rfl rfl) (Pt ?_))
      refine Qn (Cp rfl (fun hc37 => ?_) (fun hc37 => ?_))
      · have hfn : [1, 3, 4, 5].find? (fun k : Int => decide (nullW k = s)) = some (k : Int) := nullM_some hs0 (by omega) (by omega) (fun j a b => hnb j a b hs0) (Eq.symm hc37)
        rw [hfn] at hres
        dsimp only at hres
        refine Sr (Mv ?_)
        refine Vv (Gives.build (out := stepCells ⟨6, (k : Int), []⟩) (Fills.one rfl rfl rfl (by simp) rfl (Fills.one rfl rfl rfl (by simp) rfl Fills.nil))) (FL_storeAll H34 (h := fun w42 H42 => ?_))
        refine Qn (Rb (Qround_ret (Qblk_ret (Qseq_ret (QfnC_ret (h := ?_))))))
        exact ⟨_, resC1 H42, by rw [hres]; rfl, H42.kept⟩
      have hnk : s ≠ [] → nullW (k : Int) ≠ s := fun _ h => hc37 h.symm
      refine FW_skip (Qblk_normal (Qseq_normal (FW_region (Mv ?_))))
      refine Vv (Gives.addI (c := ((k + 1 : Nat) : Int)) rfl rfl (by omega) (by omega)) (Am ?_)
      refine FL_nil ?_
      exact Qround_normal (k + 1) ⟨rfl, rfl, rfl, trivial⟩ ⟨⟨by omega, by omega, fun j a b h0 => by
      by_cases e : j = k
      · rw [e]; exact hnk h0
      exact hnb j a (by omega) h0⟩, H34⟩ (by omega)
    have hs0 : s = [] := Classical.not_not.1 hs29
    have hnk : s ≠ [] → nullW (k : Int) ≠ s := fun h => absurd hs0 h
    refine Of (Of (Of (Of (Pf ?_))))
    refine Qn (FW_cond_false rfl ?_)
    refine FW_skip (Qblk_normal (Qseq_normal (FW_region (Mv ?_))))
    refine Vv (Gives.addI (c := ((k + 1 : Nat) : Int)) rfl rfl (by omega) (by omega)) (Am ?_)
    refine FL_nil ?_
    exact Qround_normal (k + 1) ⟨rfl, rfl, rfl, trivial⟩ ⟨⟨by omega, by omega, fun j a b h0 => by
    by_cases e : j = k
    · rw [e]; exact hnk h0
    exact hnb j a (by omega) h0⟩, H22⟩ (by omega)
  have hk : k = 6 := by omega
  have hfn : [1, 3, 4, 5].find? (fun k : Int => decide (nullW k = s)) = none := by
    by_cases h0 : s = []
    · rw [h0]; exact nullM_nil
    exact nullM_none fun j a b => hnb j a (by omega) h0
  rw [hfn] at hres
  dsimp only at hres
  refine FW_exit (Qseq_exit (Qround_exit (Qblk_exit (Qseq_normal (FW_seq (FW_block (Sr (Mv ?_))))))))
  refine Vv (Gives.eqlT rfl rfl) (Am ?_)
  refine Qn (Cp rfl (fun hc59 => ?_) (fun hc59 => ?_))
  · rw [if_pos (show s = trueW from hc59)] at hres
    refine Sr (Vv (Gives.build (out := stepCells ⟨3, 1, []⟩) (Fills.one rfl rfl rfl (by simp) rfl (Fills.one rfl rfl rfl (by simp) rfl Fills.nil))) (FL_storeAll H22 (h := fun w63 H63 => ?_)))
    refine Qn (Rb (QfnC_ret (h := ?_)))
    exact ⟨_, resC1 H63, by rw [hres]; rfl, H63.kept⟩
  rw [if_neg (show ¬ s = trueW from hc59)] at hres
  refine Sr (Mv ?_)
  refine Vv (Gives.eqlT rfl rfl) (Am ?_)
  refine Qn (Cp rfl (fun hc69 => ?_) (fun hc69 => ?_))
  · rw [if_pos (show s = falseW from hc69)] at hres
    refine Sr (Vv (Gives.build (out := stepCells ⟨3, 0, []⟩) (Fills.one rfl rfl rfl (by simp) rfl Fills.nil)) (FL_storeAll H22 (h := fun w73 H73 => ?_)))
    refine Qn (Rb (QfnC_ret (h := ?_)))
    exact ⟨_, resC1 H73, by rw [hres]; rfl, H73.kept⟩
  rw [if_neg (show ¬ s = falseW from hc69)] at hres
  refine Sr (Mv ?_)
  refine FL_callS (hasPrefix_ok s 35) (h := ?_)
  refine Am ?_
  refine Qn (Cp rfl (fun hc79 => ?_) (fun hc79 => ?_))
  · have hh : s.head? = some 35 := hc79
    rw [if_pos hh] at hres
    refine Sr (Mv ?_)
    refine Vv (Gives.sliceFromT (i := 1) rfl rfl (by cases s with | nil => cases hh | cons a b => simp)) (FL_call (parseInt_ok (s.drop 1) (by rw [List.length_drop]; omega) (hT.keep H22.kept)) rfl rfl (fun v' w84 hv => ?_))
    obtain ⟨⟨er, rfl⟩, hkk⟩ := hv
    have H84 := H22.keep hkk
    refine Mv ?_
    refine Vx ?_
    refine Vx ?_
    refine Am ?_
    refine Am ?_
    refine Nx (Mv ?_)
    refine Vv (Gives.build (out := stepCells ⟨1, parseN (s.drop 1), []⟩) (Fills.one rfl rfl rfl (by simp) rfl (Fills.one rfl rfl rfl (by simp) rfl Fills.nil))) (FL_storeAll H84 (h := fun w93 H93 => ?_))
    refine Qn (Rb (QfnC_ret (h := ?_)))
    exact ⟨_, resC1 H93, by rw [hres]; rfl, H93.kept⟩
  rw [if_neg (show ¬ s.head? = some 35 from hc79)] at hres
  refine Sr (Mv ?_)
  refine FL_callS (hasPrefix_ok s 34) (h := ?_)
  refine Am ?_
  refine Qn (Cp rfl (fun hc99 => ?_) (fun hc99 => ?_))
  · rw [if_pos (show s.head? = some 34 from hc99)] at hres
    refine Sr (Mv ?_)
    refine FL_call (unquoteE_ok s hl (hT.keep H22.kept)) rfl rfl (fun v' w103 hv => ?_)
    obtain ⟨⟨nn, er, rfl⟩, hkk⟩ := hv
    have H103 := H22.keep hkk
    refine Mv ?_
    refine Vx ?_
    refine Vx ?_
    refine Vx ?_
    refine Am ?_
    refine Am ?_
    refine Am ?_
    refine Nx (Mv ?_)
    refine Vv (Gives.build (out := stepCells ⟨4, 0, (unqL s).1⟩) (Fills.one rfl rfl rfl (by simp) rfl (Fills.one rfl rfl rfl (by simp) rfl Fills.nil))) (FL_storeAll H103 (h := fun w114 H114 => ?_))
    refine Qn (Rb (QfnC_ret (h := ?_)))
    exact ⟨_, resC1 H114, by rw [hres]; rfl, H114.kept⟩
  rw [if_neg (show ¬ s.head? = some 34 from hc99)] at hres
  refine Sr (Mv ?_)
  refine FL_callS (hasPrefix_ok s 120) (h := ?_)
  refine Am ?_
  refine Qn (Cp rfl (fun hc120 => ?_) (fun hc120 => ?_))
  · have hh : s.head? = some 120 := hc120
    rw [if_pos hh] at hres
    refine Sr (Vv (Gives.build (out := typeCells typeRaw) (Fills.one rfl rfl rfl (by simp) rfl Fills.nil)) (Mv ?_))
    refine FL_call (readRaw_ok s hl hh (hT.keep H22.kept).utf) rfl rfl (fun v' w125 hv => ?_)
    obtain ⟨⟨er, rfl⟩, hkk⟩ := hv
    have H125 := H22.keep hkk
    refine Mv ?_
    refine Vx ?_
    refine Vx ?_
    refine FL_alloc H125 (h := fun b129 w130 H130 k129 => ?_)
    refine FL_storeAll H130 (h := fun w132 H132 => ?_)
    refine Am ?_
    refine Nx (Vf ?_)
    refine Ld H132 ?_
    refine Vv (Gives.build (out := stepCells ⟨5, 0, readX s⟩) (Fills.one rfl rfl rfl (by simp) rfl (Fills.one rfl rfl rfl (by simp) rfl Fills.nil))) (FL_storeAll H132 (h := fun w138 H138 => ?_))
    refine Qn (Rb (QfnC_ret (h := ?_)))
    exact ⟨_, resC1 H138, by rw [hres]; rfl, H138.kept⟩
  rw [if_neg (show ¬ s.head? = some 120 from hc120)] at hres
  refine FW_skip (Qblk_normal (Qseq_normal (Sr (Mv ?_))))
  refine FL_call (parseInt_ok s hl (hT.keep H22.kept)) rfl rfl (fun v' w143 hv => ?_)
  obtain ⟨⟨er, rfl⟩, hkk⟩ := hv
  have H143 := H22.keep hkk
  refine Mv ?_
  refine Vx ?_
  refine Vx ?_
  refine Am ?_
  refine Am ?_
  refine Nx (Mv ?_)
  refine Vv (Gives.build (out := stepCells ⟨2, parseN s, []⟩) (Fills.one rfl rfl rfl (by simp) rfl (Fills.one rfl rfl rfl (by simp) rfl Fills.nil))) (FL_storeAll H143 (h := fun w152 H152 => ?_))
  refine Qn (FW_ret (QfnC_ret (h := ?_)))
  exact ⟨_, resC1 H152, by rw [hres]; rfl, H152.kept⟩
end
end Go.Proofs.YtmkaahkbhdlniaaGreatDoor
namespace Go.Mw
open Go.RowKit
section
variable {P : Program} {r : Option Nat} {n : Nat} {ops : Array Oper} {Q : Post} {rest : List Oper} {σ : St} {w w₀ : World} {S : Nat → Prop} {rs : List HP} {put : HP → List HP} {ty : TypeId} {pos : String} {after : Array Edge}
theorem FW_rangeF {α : Type} {g : Operand} {p : Tmp} {assign body : Code} {gf : FuncId} {lb : List Value} [he : Enters P gf] (enc : α → Value) (xs : List α) (J : List α → HP) (L : List α → α → HP) (Fr0 : List HP) (H : Sep w₀ S (J [] :: Fr0) w)
    (hg : evF σ g = .func (.func gf) #[] lb.toArray) (hp : Nat.blt p n = true)
    (hbody : ∀ (l D : Nat) (ro rb : Obj) (pre : List α) (x : α) (Fr : List HP) (W : World), pre ++ [x] <+: xs → Sep w₀ S (obj l ro :: obj D (.deferred (some [])) :: J pre :: Fr) W →
      FW P (some l) n assign (Qassign fun τ W' => ∃ ex : List HP, Sep w₀ S (obj l ro :: obj D (.deferred (some [])) :: (ex ++ J pre :: Fr)) W' ∧
        ∀ W'', Sep w₀ S (obj l rb :: obj D (.deferred (some [])) :: (ex ++ J pre :: Fr)) W'' → FW P (some l) n body (Qleave (fun W3 => Sep w₀ S (obj l rb :: obj D (.deferred (some [])) :: J (pre ++ [x]) :: Fr) W3) (fun W3 => Sep w₀ S [obj l rb, obj D (.deferred (some [])), L pre x] W3)) τ W'') (upd ⟨σ.get, []⟩ p (enc x)) W)
    (hiter : ∀ (l D : Nat) (ro rj : Obj) (W : World), Sep w₀ S (obj l ro :: obj D (.deferred (some [])) :: J [] :: Fr0) W →
      (∀ (pre : List α) (x : α) (Fr : List HP) (W : World), pre ++ [x] <+: xs → Sep w₀ S (obj l ro :: obj D (.deferred (some [])) :: J pre :: Fr) W → YieldB P l [enc x] W fun b W' => if b = true then Sep w₀ S (obj l ro :: obj D (.deferred (some [])) :: J (pre ++ [x]) :: Fr) W' else Sep w₀ S [obj l rj, obj D (.deferred (some [])), L pre x] W') →
      Rets P gf (.func (.yield l) #[] #[] :: lb) W fun _ W' => Sep w₀ S [obj l ro, obj D (.deferred (some [])), J xs] W' ∨ ∃ pre x, pre ++ [x] <+: xs ∧ Sep w₀ S [obj l rj, obj D (.deferred (some [])), L pre x] W')
    (hdone : ∀ (D : Nat) (W : World), Sep w₀ S [obj D (.deferred (some [])), J xs] W → Q .normal ⟨σ.get, { target := .collected D, args := #[] } :: σ.ds⟩ W)
    (hleft : ∀ (D : Nat) (W : World) (pre : List α) (x : α), pre ++ [x] <+: xs → Sep w₀ S [obj D (.deferred (some [])), L pre x] W → Q .ret ⟨σ.get, { target := .collected D, args := #[] } :: σ.ds⟩ W) :
    FW P none n (.rangeFunc g #[p] assign body) Q σ w := by
  intro a ha
  refine wpIn_rangeFunc fun fn hfn => ?_
  let rec_ : LoopState → Obj := fun st => loopRec st fn a.tmps #[p] assign body w.heap.size
  let recj : Obj := .loop { state := .done, pending := some .ret, fn := fn, tmps := a.tmps, params := #[p], assign := assign, body := body, defers := w.heap.size }
  obtain ⟨W1, hW1⟩ : ∃ W1, (w.alloc (.deferred (some []))).alloc (rec_ .ready) = W1 := ⟨_, rfl⟩
  have H1 : Sep w₀ S (obj (w.heap.size + 1) (rec_ .ready) :: obj w.heap.size (.deferred (some [])) :: J [] :: Fr0) W1 := by
    have h1 := (H.alloc (.deferred (some []))).alloc (rec_ .ready)
    rw [World.size_alloc] at h1
    rw [← hW1]; exact h1
  refine ⟨w.heap.size + 1, [{ target := .collected w.heap.size, args := #[] }], W1, { target := .fn (.func gf) lb.toArray, args := #[.func (.yield (w.heap.size + 1)) #[] #[]] }, W1, gf,
    #[.func (.yield (w.heap.size + 1)) #[] #[]] ++ lb.toArray, W1, ?_, ?_, fun _ _ => trivial, ?_, (fun h => by cases h), ?_⟩
  · rw [← hW1]; exact run_enterLoop_outer _ _ _ _ _
  · rw [ha.eval]
    simp only [resolve, hg, Deferred.ofValue]
    simp [evF]
  · simp [invoke, he.run]
  have hret := hiter (w.heap.size + 1) w.heap.size (rec_ .ready) recj W1 H1 (fun pre x Fr W hpre HW => ?_)
  · have e : (#[.func (.yield (w.heap.size + 1)) #[] #[]] ++ lb.toArray : Array Value) = (Value.func (.yield (w.heap.size + 1)) #[] #[] :: lb).toArray := by simp
    rw [e]
    refine fen_calls none (Calls.mono hret fun en W3 hr => ?_)
    cases en with
    | returned v =>
      rcases hr with hr | ⟨pre, x, hpre, hr⟩
      · have hl := Sep.obj hr At0
        refine ⟨none, _, run_endLoop hl (by simp), ?_⟩
        refine ⟨⟨σ.get, { target := .collected w.heap.size, args := #[] } :: σ.ds⟩, ⟨ha.size, ?_, ha.get⟩, hdone w.heap.size _ ?_⟩
        · show [_] ++ a.defers = _
          rw [ha.defers]; rfl
        exact (Sep.put0 hr).drop0
      have hl := Sep.obj hr At0
      refine ⟨some .ret, _, run_endLoop hl (by simp), ?_⟩
      refine wpIn_ret ⟨⟨σ.get, { target := .collected w.heap.size, args := #[] } :: σ.ds⟩, ⟨ha.size, ?_, ha.get⟩, hleft w.heap.size _ pre x hpre ?_⟩
      · show [_] ++ a.defers = _
        rw [ha.defers]; rfl
      exact (Sep.put0 hr).drop0
    | _ => exact hr.elim
  -- a round
  have hl := Sep.obj HW At0
  refine ⟨fn, _, assign, body, run_yield hl (by simp), ?_⟩
  refine roundIn_of_wpIn (F := fen none) trivial ?_
  have hb := hbody (w.heap.size + 1) w.heap.size (rec_ .ready) (rec_ .busy) pre x Fr W hpre HW
  have ha' : Rep n (upd ⟨σ.get, []⟩ p (enc x)) { tmps := ((#[p].zip [enc x].toArray).foldl (fun tmps (t, a) => tmps.setIfInBounds t a) a.tmps), defers := [] } := by
    have h0 : Rep n ⟨σ.get, []⟩ { tmps := a.tmps, defers := [] } := ⟨ha.size, rfl, ha.get⟩
    have h1 := h0.put (Nat.le_of_ble_eq_true hp) (enc x)
    simpa [Act.put] using h1
  refine Go.wpIn_mono (hb _ ha') fun en a1 W1' ⟨τ, hτ, hq⟩ => ?_
  cases en with
  | normal =>
    obtain ⟨ex, HW1, hB⟩ := hq
    have hl1 := Sep.obj HW1 At0
    refine ⟨_, run_beginRound hl1 rfl, ?_⟩
    refine Go.wpIn_mono (hB _ (Sep.put0 HW1) a1 hτ) fun en a2 W2 ⟨τ2, hτ2, hq2⟩ => ?_
    cases en with
    | normal =>
      have hl2 := Sep.obj (show Sep w₀ S _ W2 from hq2) At0
      exact ⟨_, _, run_endRound none hl2, true, rfl, by show ite (true = true) _ _; rw [if_pos rfl]; exact Sep.put0 hq2⟩
    | ret =>
      have hl2 := Sep.obj (show Sep w₀ S _ W2 from hq2) At0
      exact ⟨_, _, run_endRound (some .ret) hl2, false, rfl, by show ite (false = true) _ _; rw [if_neg (by decide)]; exact Sep.put0 hq2⟩
    | _ => exact hq2.elim
  | _ => exact hq.elim
/-! Results in cells, behind ranges. -/
theorem leaves_of_goesC {fn : Func} {tmps : Array Value} {R : Ending → World → Prop} : ∀ (ds : List Deferred) (w : World), Goes ds w (fun w' => ∃ v, (results fn tmps).run P w' = .ok v w' ∧ R (.returned v) w') → LeavesInM (fen none) 0 P fn tmps R ds .returning w
 | [], w, ⟨v, hr, h⟩ => ⟨v, hr, h⟩
 | d :: ds, w, ⟨D, ht, hh, hg⟩ => ⟨(fun e => by cases e), .inl ⟨D, _, ht, run_takeDeferred hh, leaves_of_goesC ds _ hg⟩⟩
theorem goes_mono {R R' : World → Prop} (h : ∀ w, R w → R' w) : ∀ {ds : List Deferred} {w : World}, Goes ds w R → Goes ds w R'
 | [], _, hg => h _ hg
 | _ :: _, _, ⟨D, ht, hh, hg⟩ => ⟨D, ht, hh, goes_mono h hg⟩
def QfnD (P : Program) (l : List ResultVar) (R : Value → World → Prop) : Post := fun e σ w => match e with
 | .normal | .ret => Goes σ.ds w fun w' => ∃ vs, ResAll P σ w' l vs ∧ R (resPack vs) w'
 | _ => False
theorem QfnD_ret {l : List ResultVar} {R : Value → World → Prop} (h : ∃ vs, ResAll P σ w l vs ∧ R (resPack vs) w) (hd : σ.ds = [] := by exact rfl) : QfnD P l R .ret σ w := by
 show Goes σ.ds w _
 rw [hd]; exact h
theorem QfnD_one {l : List ResultVar} {R : Value → World → Prop} {D : Nat} (H : Sep w₀ S rs w) (hat : At rs (Mw.obj D (.deferred (some []))) put) (hR : ∀ w', Sep w₀ S (put (Mw.obj D (.deferred none))) w' → ∃ vs, ResAll P σ w' l vs ∧ R (resPack vs) w')
    (hd : σ.ds = [{ target := .collected D, args := #[] }] := by exact rfl) : QfnD P l R .ret σ w := by
  show Goes σ.ds w _
  rw [hd]
  have hD := H.obj hat
  have hlt := lt_of_get hD
  exact ⟨D, rfl, hD, hR _ (H.setObj hat ⟨rfl, rfl, rfl, by simp, fun k _ hS => by simp only; rw [Array.getElem?_setIfInBounds_ne (fun e => hS e.symm)]⟩ (by simp [hlt]))⟩
theorem retsD1 {f : FuncId} {fn : Func} {c : Code} {R : Value → World → Prop} {n : Nat} {l : List ResultVar} {a0 : Value}
    (hf : P.funcs[f]? = some fn) (hb : fn.body = some c) (hn : fn.ntmps = n) (hl : fn.results = l.toArray) (hk : Nat.ble 1 n = true)
    (h : FW P none n c (QfnD P l R) (upd und 0 a0) w) : Rets P f [a0] w R := by
  have hle : 1 ≤ n := Nat.le_of_ble_eq_true hk
  refine (callsIn_wide (n := 0)).1 (callsIn_of_wp_marks (F := fen none) hf hb trivial (Go.wpIn_mono (h _ ⟨?_, rfl, fun i => ?_⟩) ?_))
  · simp [hn]; omega
  · have e : upd und 0 a0 = args0 0 [a0] := rfl
    rw [e, args0_get]
    simp only [Nat.zero_le, if_true, Nat.sub_zero]
    simp only [Array.getD_eq_getD_getElem?, List.getElem?_toArray]
    rw [Array.getElem?_append]
    split
    · simp
    rename_i hge
    simp at hge
    rw [List.getElem?_eq_none (by simp; omega)]
    rw [Array.getElem?_replicate]
    split <;> rfl
  rintro e a' w' ⟨s, hs, hq⟩
  cases e with
  | normal =>
    show LeavesInM _ _ _ _ _ _ _ _ _
    rw [hs.defers]
    exact leaves_of_goesC _ _ (goes_mono (fun w2 ⟨vs, h1, h2⟩ => ⟨_, run_resultsC hs.get hl h1, h2⟩) hq)
  | ret =>
    show LeavesInM _ _ _ _ _ _ _ _ _
    rw [hs.defers]
    exact leaves_of_goesC _ _ (goes_mono (fun w2 ⟨vs, h1, h2⟩ => ⟨_, run_resultsC hs.get hl h1, h2⟩) hq)
  | _ => exact hq.elim
end
end Go.Mw
