/-
 The program's Quote, walked.
-/
import Derived.Test.YtolaedhdjcnijaaGreatDoorKt16
set_option linter.unusedVariables false
set_option linter.unusedSimpArgs false
namespace Go.Mw
open Go.RowKit
section
variable {P : Program} {r : Option Nat} {n : Nat} {ops : Array Oper} {Q : Post} {rest : List Oper} {σ : St} {w w₀ : World} {S : Nat → Prop} {rs : List HP} {put : HP → List HP} {ty : TypeId} {pos : String} {after : Array Edge}
theorem FL_rangeT {d : Nat} {x : Operand} {T : TypeId} [ht : IsStr P T] {s : ByteArray} (H : Sep w₀ S rs w) (hx : evF σ x = .string s := by exact rfl) (hd : Nat.blt d n = true := by exact rfl)
    (h : ∀ k w', Sep w₀ S (obj k (.stringIter s 0) :: rs) w' → FL P r n ops Q rest (upd σ d (.pointer (some ⟨k, 0, none⟩))) w') : FL P r n ops Q ({ dst := some d, op := .range T x, type := ty, pos := pos, after := after, guard := none } :: rest) σ w := by
  obtain ⟨k, w', hg, hs⟩ := gives_rangeT (P := P) (ty := ty) (T := T) H hx
  exact FL_val hg hd (h k w' hs)
theorem FL_nextT {d : Nat} {x : Operand} {s : ByteArray} {k i : Nat} (H : Sep w₀ S rs w) (hat : At rs (obj k (.stringIter s i)) put)
    (h1 : i < s.size → ∀ w', Sep w₀ S (put (obj k (.stringIter s (i + (Utf8.decode s i).2)))) w' → FL P r n ops Q rest (upd σ d (.tuple #[.bool true, .int .i64 i, .int .i32 (Utf8.decode s i).1])) w')
    (h2 : ¬ i < s.size → FL P r n ops Q rest (upd σ d (.tuple #[.bool false])) w) (hx : evF σ x = .pointer (some ⟨k, 0, none⟩) := by exact rfl) (hd : Nat.blt d n = true := by exact rfl) :
    FL P r n ops Q ({ dst := some d, op := .next x true, type := ty, pos := pos, after := after, guard := none } :: rest) σ w := by
  by_cases h : i < s.size
  · obtain ⟨w', hg, hs⟩ := gives_nextT (P := P) (ty := ty) H hat hx h
    exact FL_val hg hd (h1 h w' hs)
  exact FL_val (gives_nextEnd (P := P) (ty := ty) H hat hx h) hd (h2 h)
end
end Go.Mw
namespace Go.Proofs.YtolaedhdjcnijaaGreatDoor
open Go Go.Mw Go.Lib
theorem enc_high {r : Nat} (h : 128 ≤ r) (h1 : r ≤ 1114111) : ∀ c ∈ encodeRune (r : Int), 128 ≤ c.toNat := by
 intro c hc
 unfold encodeRune at hc
 obtain ⟨x, hx, rfl⟩ := List.mem_map.1 hc
 unfold encodeRuneZ at hx
 rw [if_neg (by omega)] at hx
 repeat' split at hx
 all_goals (simp only [List.mem_cons, List.not_mem_nil, or_false] at hx)
 all_goals (rcases hx with rfl | rfl | rfl | rfl <;> simp <;> omega)
theorem flat_highB {l : List UInt8} (h : ∀ c ∈ l, 128 ≤ c.toNat) : l.flatMap quoteB = l := by
 induction l with
 | nil => rfl
 | cons c t ih =>
  rw [List.flatMap_cons, quoteB_high (h c (by simp)), ih (fun x hx => h x (by simp [hx]))]; rfl
theorem valid_rune (r : Nat) (h1 : r ≤ 1114111) (h : r < 55296 ∨ 57343 < r) : Utf8.valid (r : Int) = true := by
 simp [Utf8.valid]; omega
theorem encL1 (r : Nat) (v : Utf8.valid (r : Int) = true) (c1 : r < 128) : (Utf8.encode (r : Int)).data.toList = [UInt8.ofNat r] := by
 simp [Utf8.encode, v, c1]
theorem encL2 (r : Nat) (v : Utf8.valid (r : Int) = true) (c1 : ¬ r < 128) (c2 : r < 2048) : (Utf8.encode (r : Int)).data.toList = [UInt8.ofNat (192 + r / 64), UInt8.ofNat (128 + r % 64)] := by
 simp [Utf8.encode, v, c1, c2]
theorem encL3 (r : Nat) (v : Utf8.valid (r : Int) = true) (c1 : ¬ r < 128) (c2 : ¬ r < 2048) (c3 : r < 65536) : (Utf8.encode (r : Int)).data.toList = [UInt8.ofNat (224 + r / 4096), UInt8.ofNat (128 + r / 64 % 64), UInt8.ofNat (128 + r % 64)] := by
 simp [Utf8.encode, v, c1, c2, c3]
theorem encL4 (r : Nat) (v : Utf8.valid (r : Int) = true) (c1 : ¬ r < 128) (c2 : ¬ r < 2048) (c3 : ¬ r < 65536) : (Utf8.encode (r : Int)).data.toList = [UInt8.ofNat (240 + r / 262144), UInt8.ofNat (128 + r / 4096 % 64), UInt8.ofNat (128 + r / 64 % 64), UInt8.ofNat (128 + r % 64)] := by
 simp [Utf8.encode, v, c1, c2, c3]
theorem en_eq (n : Nat) (z : Int) (e : z.toNat = n) : z.toNat.toUInt8 = UInt8.ofNat n := by rw [e]
theorem encL_of (r : Int) (l : List UInt8) (e : (Utf8.encode r).data.toList = l) : encL r = l := by
 have h2 : Utf8.encode r = ⟨(encL r).toArray⟩ := Value.string.inj (str_encode r)
 have h3 := congrArg (fun b : ByteArray => b.data.toList) h2
 exact h3.symm.trans e
theorem encL_eq (r : Nat) (h1 : r ≤ 1114111) (h : r < 55296 ∨ 57343 < r) : encL (r : Int) = encodeRune (r : Int) := by
 have v := valid_rune r h1 h
 unfold encodeRune
 by_cases c1 : r < 128
 ·have e1 := en_eq r (r : Int) (by omega)
  rw [encodeRuneZ_one (by omega) (by omega), encL_of _ _ (encL1 r v c1), List.map_cons, List.map_nil, e1]
 by_cases c2 : r < 2048
 ·have e1 := en_eq (192 + r / 64) (192 + (r : Int) / 64) (by omega)
  have e2 := en_eq (128 + r % 64) (128 + (r : Int) % 64) (by omega)
  rw [encodeRuneZ_two (by omega) (by omega), encL_of _ _ (encL2 r v c1 c2), List.map_cons, List.map_cons, List.map_nil, e1, e2]
 by_cases c3 : r < 65536
 ·have e1 := en_eq (224 + r / 4096) (224 + (r : Int) / 4096) (by omega)
  have e2 := en_eq (128 + r / 64 % 64) (128 + (r : Int) / 64 % 64) (by omega)
  have e3 := en_eq (128 + r % 64) (128 + (r : Int) % 64) (by omega)
  rw [encodeRuneZ_three (by omega), encL_of _ _ (encL3 r v c1 c2 c3), List.map_cons, List.map_cons, List.map_cons, List.map_nil, e1, e2, e3]
 have e1 := en_eq (240 + r / 262144) (240 + (r : Int) / 262144) (by omega)
 have e2 := en_eq (128 + r / 4096 % 64) (128 + (r : Int) / 4096 % 64) (by omega)
 have e3 := en_eq (128 + r / 64 % 64) (128 + (r : Int) / 64 % 64) (by omega)
 have e4 := en_eq (128 + r % 64) (128 + (r : Int) % 64) (by omega)
 rw [encodeRuneZ_four (by omega) (by omega), encL_of _ _ (encL4 r v c1 c2 c3), List.map_cons, List.map_cons, List.map_cons, List.map_cons, List.map_nil, e1, e2, e3, e4]
theorem rune_shape {s : List UInt8} {r n : Nat} (h : nextL s = some (r, n)) : r ≤ 1114111 ∧ (r < 55296 ∨ 57343 < r) := by
 unfold nextL at h
 split at h
 ·cases h
 rename_i hn
 injection h with h
 have h1 : (decodeL s).1 = r := by rw [h]
 have h2 : (decodeL s).2 = n := by rw [h]
 rw [decodeL_N] at h1 h2 hn
 have hb : (s.getD 0 0).toNat < 256 := (s.getD 0 0).toNat_lt
 rcases decodeN_shape s.length (s.getD 0 0).toNat (s.getD 1 0).toNat (s.getD 2 0).toNat (s.getD 3 0).toNat with ⟨a, e⟩ | ⟨a1, a2, a3, a4, e⟩ | ⟨a1, a2, a3, a4, a5, a6, e⟩ | ⟨a1, a2, a3, a4, a5, a6, a7, e⟩ | e
 ·rw [e] at h1; simp only at h1; omega
 ·rw [e] at h1; simp only at h1; omega
 ·rw [e] at h1; simp only at h1; omega
 ·rw [e] at h1; simp only at h1; omega
 rw [e] at hn; exact absurd (.inr ⟨rfl, rfl⟩) hn
theorem rune_low {s : List UInt8} {r n : Nat} (h : nextL s = some (r, n)) (hr : r < 128) : n = 1 ∧ s.take 1 = [r.toUInt8] := by
 obtain ⟨_, h1, h2, h3⟩ := next_some h
 have e : encodeRune (r : Int) = [r.toUInt8] := by unfold encodeRune; rw [encodeRuneZ_one (by omega) (by omega)]; simp
 rw [e] at h3
 have := congrArg List.length h3
 rw [List.length_take] at this
 simp at this
 have hn : n = 1 := by omega
 subst hn
 exact ⟨rfl, h3.symm⟩
theorem rune_step {l : List UInt8} {i : Nat} (hv : validD (l.drop i) = true) (hlt : i < l.length) : ∃ r n : Nat, Utf8.decode ⟨l.toArray⟩ i = (r, n) ∧ 1 ≤ n ∧ i + n ≤ l.length ∧ validD (l.drop (i + n)) = true ∧ r ≤ 1114111 ∧ (r < 55296 ∨ 57343 < r) ∧
    (r < 128 → outQ l (i + n) = outQ l i ++ quoteB r.toUInt8) ∧ (128 ≤ r → outQ l (i + n) = outQ l i ++ encodeRune (r : Int)) := by
  have hne : l.drop i ≠ [] := fun e => by have := congrArg List.length e; rw [List.length_drop] at this; simp at this; omega
  have hs := valid_step hne
  rw [hv] at hs
  cases hx : nextL (l.drop i) with
  | none => rw [hx] at hs; cases hs
  | some p =>
    obtain ⟨r, n⟩ := p
    rw [hx] at hs
    dsimp only at hs
    obtain ⟨e1, h1, h2, h3⟩ := next_some hx
    obtain ⟨s1, s2⟩ := rune_shape hx
    rw [List.length_drop] at h2
    have hd : Utf8.decode ⟨l.toArray⟩ i = (r, n) := by rw [← decodeL_drop]; exact e1
    have hdv : validD (l.drop (i + n)) = true := by
      rw [List.drop_drop] at hs
      exact hs.symm
    have hout : outQ l (i + n) = outQ l i ++ ((l.drop i).take n).flatMap quoteB := by
      unfold outQ
      rw [List.take_add, List.flatMap_append]; rfl
    refine ⟨r, n, hd, h1, by omega, hdv, s1, s2, fun h => ?_, fun h => ?_⟩
    · obtain ⟨hn, ht⟩ := rune_low hx h
      rw [hout, hn, ht]; simp
    rw [hout, ← h3, flat_highB (fun c hc => enc_high h s1 c hc)]
theorem short_quote {r : Nat} {c : UInt8} (h : shortM r = some c) : r < 128 ∧ quoteB r.toUInt8 = [92] ++ encodeRune (c.toNat : Int) ∧ c.toNat < 128 := by
 unfold shortM at h
 by_cases h1 : (r : Int) = 34
 ·rw [if_pos h1] at h; injection h with h; subst h; have : r = 34 := by omega
  subst this; exact ⟨by decide, by decide, by decide⟩
 rw [if_neg h1] at h
 by_cases h1 : (r : Int) = 92
 ·rw [if_pos h1] at h; injection h with h; subst h; have : r = 92 := by omega
  subst this; exact ⟨by decide, by decide, by decide⟩
 rw [if_neg h1] at h
 by_cases h1 : (r : Int) = 8
 ·rw [if_pos h1] at h; injection h with h; subst h; have : r = 8 := by omega
  subst this; exact ⟨by decide, by decide, by decide⟩
 rw [if_neg h1] at h
 by_cases h1 : (r : Int) = 12
 ·rw [if_pos h1] at h; injection h with h; subst h; have : r = 12 := by omega
  subst this; exact ⟨by decide, by decide, by decide⟩
 rw [if_neg h1] at h
 by_cases h1 : (r : Int) = 10
 ·rw [if_pos h1] at h; injection h with h; subst h; have : r = 10 := by omega
  subst this; exact ⟨by decide, by decide, by decide⟩
 rw [if_neg h1] at h
 by_cases h1 : (r : Int) = 13
 ·rw [if_pos h1] at h; injection h with h; subst h; have : r = 13 := by omega
  subst this; exact ⟨by decide, by decide, by decide⟩
 rw [if_neg h1] at h
 by_cases h1 : (r : Int) = 9
 ·rw [if_pos h1] at h; injection h with h; subst h; have : r = 9 := by omega
  subst this; exact ⟨by decide, by decide, by decide⟩
 rw [if_neg h1] at h
 cases h
theorem long_quote {r : Nat} (h : shortM r = none) : (r < 32 → quoteB r.toUInt8 = [92, 117, 48, 48, hexB (r / 16), hexB (r % 16)]) ∧ (32 ≤ r → r < 128 → quoteB r.toUInt8 = encodeRune (r : Int)) := by
 have hne : r ≠ 34 ∧ r ≠ 92 ∧ r ≠ 8 ∧ r ≠ 12 ∧ r ≠ 10 ∧ r ≠ 13 ∧ r ≠ 9 := by
  refine ⟨?_, ?_, ?_, ?_, ?_, ?_, ?_⟩ <;> (intro e; subst e; revert h; decide)
 constructor
 ·intro h32
  have hn : (r.toUInt8).toNat = r := by simp; omega
  rw [quoteB_nat, hn, if_neg (by omega), if_neg (by omega), if_neg (by omega), if_neg (by omega), if_neg (by omega), if_neg (by omega), if_neg (by omega), if_pos h32]
 intro h32 h128
 have hn : (r.toUInt8).toNat = r := by simp; omega
 rw [quoteB_nat, hn, if_neg (by omega), if_neg (by omega), if_neg (by omega), if_neg (by omega), if_neg (by omega), if_neg (by omega), if_neg (by omega), if_neg (by omega)]
 unfold encodeRune
 rw [encodeRuneZ_one (by omega) (by omega)]; simp
section
variable {w : World}
theorem and15 {x : Nat} (h : x < 32) : bits .and .i32 (x : Int) 15 = ((x % 16 : Nat) : Int) := by
 have key : ∀ i : Fin 32, bits .and .i32 (i.val : Int) 15 = ((i.val % 16 : Nat) : Int) := by decide
 exact key ⟨x, h⟩
set_option maxRecDepth 4000
theorem quoteE_ok (l : List UInt8) (hl : l.length ≤ 1000000) (hT : TabsU w) : Rets Tryz.prog 127 [str l] w fun v w' => v = .tuple #[str (quoteP l).1, I (quoteP l).2] ∧ Kept noB w w' := by
 have H := Sep.start0 w
 refine rets1 Tryz.func127 rfl rfl rfl rfl ?_
 refine Sr (Am ?_)
 refine Am ?_
 refine Qn (FW_seq (Sr (Mv ?_)))
 refine FL_callQ H (utfValid_ok l (by omega) (hT.keep H.kept)) (h := fun w5 H5 k4 => ?_)
 refine Vv (Gives.not rfl) (Qn ?_)
 refine Cd rfl (fun hc7 => ?_) (fun hc7 => ?_)
 ·have hq : quoteP l = ([], 40) := if_neg (by simpa using hc7)
  refine Sr (Am ?_)
  refine Am ?_
  refine Qn (Rs (Qfn_ret (hR := ?_)))
  exact ⟨by rw [hq]; rfl, H5.kept⟩
 have hv : validD l = true := by simpa using hc7
 have hq : quoteP l = (quoteL l, 0) := if_pos hv
 refine Sk (Sr (FL_alloc H5 (h := fun b4 w14 H14 k13 => ?_)))
 replace H14 := Sep.newB H14
 refine Nx ?_
 obtain ⟨F0, hp0, hS0, hput0⟩ := H14.focus At0
 refine FL_call (writeByte_ok 34 hp0 (by simp)) rfl rfl (fun v' w16 hv => ?_)
 obtain ⟨rfl, hkk, F1, hq2, hs⟩ := hv
 have H16 := hput0 _ F1 _ hkk hq2 hs
 refine Nx (FL_call (short_ok) rfl rfl (fun v' w18 hv => ?_))
 obtain ⟨m, rfl, _, hkk, F1, hq2, hsub⟩ := hv
 have H18 := H16.new hkk hq2 (fun b hb => (hsub b hb).resolve_left id)
 refine Am ?_
 refine Qn (FW_seq (Sr (Mv ?_)))
 refine FL_rangeT H18 (h := fun k w22 H22 => ?_)
 refine Qn (FW_block (FW_loop' (fun _ : Nat => [(0, str l), (4, selfP b4), (5, .map (some m)), (16, .pointer (some ⟨k, 0, none⟩))]) (fun i w' => (i ≤ l.length ∧ validD (l.drop i) = true) ∧ Sep w noB [obj k (.stringIter ⟨l.toArray⟩ i), obj m (.map shortsA 7), bldH b4 (outQ l i)] w') (fun i _ => l.length - i) 0 ⟨rfl, rfl, rfl, rfl, trivial⟩ ⟨⟨Nat.zero_le _, hv⟩, H22⟩ (fun i τ w24 hI => ?_)))
 obtain ⟨⟨hi, hvd⟩, H24⟩ := hI
 try simp only [upds, like, upd_ds, und_ds]
 refine Sr (FL_nextT H24 At0 (h1 := fun hn25 w27 H27 => ?_) (h2 := fun hn25 => ?_))
 ·have hlt : i < l.length := by rw [Mw.size_mk] at hn25; exact hn25
  obtain ⟨r, n, hdec, hn1, hin, hvn, hr1, hr2, hlow, hhigh⟩ := rune_step hvd hlt
  rw [hdec] at H27
  rw [hdec]
  have hol := outQ_len l i
  have hel := enc_len (r : Int)
  refine Vx ?_
  refine Qn (FW_seq (FW_cond_true rfl ?_))
  refine Sk (FW_block (Sr (Vx ?_)))
  refine Am ?_
  refine Nx (Mv ?_)
  refine Mv ?_
  refine FL_val (gives_lookup2 (zv := B 0) (i := (r : Int)) (H27.obj At1) shorts_keys rfl rfl) rfl ?_
  rw [shorts_get, show ((shortM (r : Int)).map B).getD (B 0) = B ((shortM (r : Int)).getD 0) from by cases shortM (r : Int) <;> rfl, Option.isSome_map]
  refine Mv ?_
  refine Vx ?_
  refine Vx ?_
  refine Am ?_
  refine Am ?_
  refine Qn (FW_block (Sr (Mv ?_)))
  refine Am ?_
  refine Qn (Cd rfl (fun hc42 => ?_) (fun hc42 => ?_))
  ·obtain ⟨c, hc⟩ := Option.isSome_iff_exists.1 hc42
   obtain ⟨hr7, hqb, hc7⟩ := short_quote hc
   rw [hc, Option.getD_some]
   refine FW_region (Mv ?_)
   refine Vv (Gives.convI32 (a := (c.toNat : Int)) rfl (by omega)) (Vv (Gives.runeT rfl) ?_)
   rw [encL_eq c.toNat (by omega) (by omega)]
   have hel2 := enc_len (c.toNat : Int)
   refine Vv (Gives.catT rfl rfl (by simp; omega)) ?_
   obtain ⟨F0, hp0, hS0, hput0⟩ := H27.focus At2
   refine FL_call (writeString_ok (by simp) hp0 (by simp; omega)) rfl rfl (fun v' w49 hv => ?_)
   obtain ⟨rfl, hkk, F1, hq2, hs⟩ := hv
   have H49 := hput0 _ F1 _ hkk hq2 hs
   rw [← hqb, ← hlow hr7] at H49
   refine FL_nil (Qblk_normal (Qblk_normal ?_))
   exact Qround_normal (i + n) ⟨rfl, rfl, rfl, rfl, trivial⟩ ⟨⟨hin, hvn⟩, H49⟩ (by omega)
  have hnone : shortM (r : Int) = none := by simpa using hc42
  obtain ⟨hl32, hl128⟩ := long_quote hnone
  refine Sr (Mv ?_)
  refine Vl ?_
  refine Am ?_
  refine Qn (Cp rfl (fun hc55 => ?_) (fun hc55 => ?_))
  ·refine FW_drawS rfl H27 (h := fun hok56 w58 H58 => ?_)
   refine Gm hok56 0 ?_
   refine Gp hok56 1 rfl rfl (fun _ => (Gives.shrN (m := r) (s := 4) rfl rfl (by decide))) (Gm hok56 2 ?_)
   refine Gp hok56 3 rfl rfl (fun _ => (Gives.shrN (m := r) (s := 4) rfl rfl (by decide))) (Gp hok56 4 rfl rfl (fun _ => (Gives.addW (c := ((r / 16 + 1 : Nat) : Int)) rfl rfl (by rw [IntKind.wrap_i32]; omega))) ?_)
   refine Gp hok56 5 rfl rfl (fun _ => (Gives.sliceBothT (l := hexS) (i := r / 16) (m := r / 16 + 1) rfl rfl rfl (by omega) (by show r / 16 + 1 ≤ 16; first | done | omega))) ?_
   rw [hex_piece (by omega)]
   refine Gp hok56 6 rfl rfl (fun _ => (Gives.catT rfl rfl (by first | omega | (simp; done) | (simp; omega)))) ?_
   refine Gm hok56 7 ?_
   refine Gp hok56 8 rfl rfl (fun _ => (Gives.andE (c := ((r % 16 : Nat) : Int)) rfl rfl (and15 (by omega)))) (Gm hok56 9 ?_)
   refine Gp hok56 10 rfl rfl (fun _ => (Gives.andE (c := ((r % 16 : Nat) : Int)) rfl rfl (and15 (by omega)))) (Gp hok56 11 rfl rfl (fun _ => (Gives.addW (c := ((r % 16 + 1 : Nat) : Int)) rfl rfl (by rw [IntKind.wrap_i32]; omega))) ?_)
   refine Gp hok56 12 rfl rfl (fun _ => (Gives.sliceBothT (l := hexS) (i := r % 16) (m := r % 16 + 1) rfl rfl rfl (by omega) (by show r % 16 + 1 ≤ 16; first | done | omega))) ?_
   rw [hex_piece (by omega)]
   refine Gp hok56 13 rfl rfl (fun _ => (Gives.catT rfl rfl (by first | omega | (simp; done) | (simp; omega)))) ?_
   have hq6 := hl32 (by omega)
   obtain ⟨F0, hp0, hS0, hput0⟩ := H58.focus At2
   refine FGcall hok56 14 [] rfl (by kernel_rfl) (writeString_ok (news := quoteB r.toUInt8) (by rw [hq6]; simp) hp0 (by rw [hq6]; simp; omega)) (by rw [hq6]; rfl) (by kernel_rfl) (by kernel_rfl) (fun v' w70 hv => ?_)
   obtain ⟨rfl, hkk, F1, hq2, hs⟩ := hv
   have H70 := hput0 _ F1 _ hkk hq2 hs
   rw [← hlow (by omega)] at H70
   refine ⟨Stab_nil, ?_⟩
   refine FG_end hok56 (by kernel_rfl) ?_
   refine Qblk_normal (Qblk_normal ?_)
   exact Qround_normal (i + n) ⟨rfl, rfl, rfl, rfl, trivial⟩ ⟨⟨hin, hvn⟩, H70⟩ (by omega)
  refine FW_region (Mv ?_)
  obtain ⟨F0, hp0, hS0, hput0⟩ := H27.focus At2
  refine FL_call (writeRune_ok hp0 (by omega) hr1 hr2) rfl rfl (fun v' w74 hv => ?_)
  obtain ⟨hkk, F1, hq2, hs⟩ := hv
  have H74 := hput0 _ F1 _ hkk hq2 hs
  have hout : outQ l i ++ encodeRune (r : Int) = outQ l (i + n) := by
   by_cases h128 : r < 128
   ·rw [hlow h128, hl128 (by omega) h128]
   exact (hhigh (by omega)).symm
  rw [hout] at H74
  refine FL_nil (Qblk_normal (Qblk_normal ?_))
  exact Qround_normal (i + n) ⟨rfl, rfl, rfl, rfl, trivial⟩ ⟨⟨hin, hvn⟩, H74⟩ (by omega)
 have hil : i = l.length := by rw [Mw.size_mk] at hn25; omega
 have hfin : outQ l i ++ [34] = quoteL l := by
  rw [hil]; unfold outQ quoteL; rw [List.take_length]; rfl
 refine Vx ?_
 refine Qn (FW_seq (FW_cond_false rfl ?_))
 refine FW_exit (Qseq_exit (Qround_exit (Qblk_exit (Qseq_normal (Sr ?_)))))
 have hol := outQ_len l i
 obtain ⟨F0, hp0, hS0, hput0⟩ := H24.focus At2
 refine FL_call (writeByte_ok 34 hp0 (by omega)) rfl rfl (fun v' w79 hv => ?_)
 obtain ⟨rfl, hkk, F1, hq2, hs⟩ := hv
 have H79 := hput0 _ F1 _ hkk hq2 hs
 rw [hfin] at H79
 refine Nx ?_
 have hol2 : (quoteL l).length ≤ 6000008 := by rw [← hfin, List.length_append]; simp; omega
 obtain ⟨F0, hp0, hS0, hput0⟩ := H79.focus At2
 refine FL_call (string_ok hp0 (by omega)) rfl rfl (fun v' w81 hv => ?_)
 obtain ⟨rfl, hkk, F1, hq2, hs⟩ := hv
 have H81 := hput0 _ F1 _ hkk hq2 hs
 refine Am ?_
 refine Am ?_
 refine Qn (FW_ret (Qfn_ret (hR := ?_)))
 exact ⟨by rw [hq]; rfl, H81.kept⟩
end
end Go.Proofs.YtolaedhdjcnijaaGreatDoor
namespace Go.Mw
open Go.RowKit
section
variable {P : Program} {r : Option Nat} {n : Nat} {ops : Array Oper} {Q : Post} {rest : List Oper} {σ : St} {w w₀ : World} {S : Nat → Prop} {rs : List HP} {ty : TypeId} {pos : String} {after : Array Edge} {l : List UInt8}
theorem FL_bytesP {d : Nat} {s t e : TypeId} {x : Operand} [hs : IsStr P s] [ht : IsSlice P t e] [he : IsInt P e .u8] (H : Sep w₀ S rs w) (hx : evF σ x = str l := by exact rfl) (hd : Nat.blt d n = true := by exact rfl)
    (h : ∀ b c o w', (∀ w2 : World, w2.heap[b]? = some o → RowAt w2 (some ⟨b, 0, none⟩) l.length 1 (l.map fun u => Value.int .u8 u.toNat)) → l.length ≤ c → Sep w₀ S (obj b o :: rs) w' → FL P r n ops Q rest (upd σ d (.slice (some ⟨b, 0, none⟩) l.length c)) w') :
    FL P r n ops Q ({ dst := some d, op := .convert s t x, type := ty, pos := pos, after := after, guard := none } :: rest) σ w := by
  have hrun := run_bytes_of_string (P := P) w s t e ⟨l.toArray⟩ hs.und ht.und he.und
  rw [size_mk] at hrun
  have hk0 : Kept noB w w.drew := Kept.drew w
  refine FL_val (v := .slice (some ⟨w.heap.size, 0, none⟩) l.length (grownCap w l.length 0 e)) (w' := w.drew.alloc (.cells (bytesRow ⟨l.toArray⟩ (grownCap w l.length 0 e)) e ((bytesRow ⟨l.toArray⟩ (grownCap w l.length 0 e)).size, (bytesRow ⟨l.toArray⟩ (grownCap w l.length 0 e)).size + 1))) (fun _ _ _ _ => ?_) hd (h _ _ _ _ (fun w2 hw2 => ?_) (grownCap_ge w l.length 0 e) ((H.keep hk0).alloc _))
  · simp only [execOp, hx, str, Sem.run_bind, hrun, Result.andThen_ok, Sem.run_pure]
  refine ⟨by simp, fun _ => ⟨_, rfl, fun j u hu => ?_⟩⟩
  rw [Addr.add_lit, Nat.zero_add]
  have hj := (List.getElem?_eq_some_iff.1 hu).1
  have e0 : w2.cell? ⟨w.heap.size, j, none⟩ = (bytesRow ⟨l.toArray⟩ (grownCap w l.length 0 e))[j]? := by
    unfold World.cell?
    have hw3 : w2.heap[w.heap.size]? = _ := hw2
    simp only [hw3]; rfl
  rw [e0]
  unfold bytesRow
  rw [Array.getElem?_append_left (by simpa using hj)]
  simpa using hu
end
end Go.Mw
namespace Go.Proofs.YtolaedhdjcnijaaGreatDoor
open Go Go.Mw Go.Lib
set_option maxRecDepth 4000
structure TabsX (w : World) : Prop where
 utf : TabsU w
 pow : Lib.TabIs Tryz.prog w "internal/strconv.uint64pow10" .u64 Lib.pow10Tab
 syn : ∃ tp p, w.var? Tryz.prog "strconv.ErrSyntax" = some #[.iface tp p]
 ran : ∃ tp p, w.var? Tryz.prog "strconv.ErrRange" = some #[.iface tp p]
 len : ∃ m, w.cell? ⟨0, 0, none⟩ = some (.int .i64 m)
theorem var_keep {P : Program} {w w' : World} {n : String} {cs : Array Value} (hk : Kept noB w w') (h : w.var? P n = some cs) : w'.var? P n = some cs := by
 unfold World.var? at h ⊢
 cases hg : P.globalNamed n with
 | none => rw [hg] at h; cases h
 | some g =>
  rw [hg] at h
  simp only [Option.bind_some] at h ⊢
  have hlt : g < w.heap.size := by
   refine Classical.byContradiction fun hn => ?_
   rw [Array.getElem?_eq_none (by omega)] at h
   cases h
  rw [hk.block g hlt id]
  exact h
theorem cell_keep {w w' : World} {b o : Nat} {v : Value} (hk : Kept noB w w') (h : w.cell? ⟨b, o, none⟩ = some v) : w'.cell? ⟨b, o, none⟩ = some v := by
 have hlt : b < w.heap.size := by
  refine Classical.byContradiction fun hn => ?_
  unfold World.cell? at h
  rw [Array.getElem?_eq_none (by dsimp only; omega)] at h
  cases h
 unfold World.cell? at h ⊢
 rw [hk.block b hlt id]
 exact h
theorem TabsX.keep {w w' : World} (h : TabsX w) (hk : Kept noB w w') : TabsX w' :=
 ⟨h.utf.keep hk, var_keep hk h.pow, h.syn.imp fun _ h => h.imp fun _ h => var_keep hk h, h.ran.imp fun _ h => h.imp fun _ h => var_keep hk h, h.len.imp fun _ h => cell_keep hk h⟩
def byteC (c : UInt8) : List Value := [B c]
instance : EncK byteC 1 := ⟨fun _ => rfl⟩
theorem flat_byteC : ∀ l : List UInt8, l.flatMap byteC = l.map B
 | [] => rfl
 | c :: l => by rw [List.flatMap_cons, flat_byteC l]; rfl
theorem rd_bytes {w : World} {A : Option Addr} {l : List UInt8} (h : RowAt w A l.length 1 (l.map fun u => Value.int .u8 u.toNat)) : Rd w A byteC 1 l := by
 unfold Rd
 rw [flat_byteC]
 exact h
theorem hexS_at {n : Nat} (h : n < 16) : hexS.getD n 0 = hexB n := by
 have key : ∀ i : Fin 16, hexS.getD i.val 0 = hexB i.val := by decide
 exact key ⟨n, h⟩
theorem and15b {x : Nat} (h : x < 256) : bits .and .u8 (x : Int) 15 = ((x % 16 : Nat) : Int) := by
 have key : ∀ i : Fin 256, i.val &&& 15 = i.val % 16 := by decide
 have := u8_and_nat x 15 h (by decide)
 rw [key ⟨x, h⟩] at this
 exact this
section
variable {w : World}
theorem hexE_ok (c : CellM) (hl : c.s.length ≤ 1000000) : Rets Tryz.prog 222 [agg (cellCells c)] w fun v w' => v = str (120 :: hexL c.s) ∧ Kept noB w w' := by
 have H := Sep.start0 w
 refine rets1 Tryz.func222 rfl rfl rfl rfl ?_
 refine Sr (FL_box H (h := fun b1 w2 H2 k1 => ?_))
 refine Am ?_
 refine Nx (FL_alloc H2 (h := fun b3 w5 H5 k4 => ?_))
 replace H5 := Sep.newB H5
 refine Nx ?_
 obtain ⟨F0, hp0, hS0, hput0⟩ := H5.focus At0
 refine FL_call (writeString_ok (news := [120]) (by simp) hp0 (by simp)) rfl rfl (fun v' w7 hv => ?_)
 obtain ⟨rfl, hkk, F1, hq2, hs⟩ := hv
 have H7 := hput0 _ F1 _ hkk hq2 hs
 refine Qn (FW_seq (Sr (Vf ?_)))
 refine Ld H7 ?_
 refine FL_bytesP H7 (h := ?_)
 intro b9 c9 o9 w11 hr9 hc9 H11
 refine Vs ?_
 refine Mv ?_
 refine Qn (FW_block (FW_loop' (fun i : Nat => [(3, selfP b3), (9, .slice (some ⟨b9, 0, none⟩) c.s.length c9), (10, I c.s.length), (11, I i)]) (fun i w' => i ≤ c.s.length ∧ Sep w noB [obj b9 o9, bldH b3 (120 :: hexL (c.s.take i))] w') (fun i _ => c.s.length - i) 0 ⟨rfl, rfl, rfl, rfl, trivial⟩ ⟨Nat.zero_le _, (H11.front1.front1).firsts (l := [_, _])⟩ (fun i τ w15 hI => ?_)))
 obtain ⟨hi, H15⟩ := hI
 try simp only [upds, like, upd_ds, und_ds]
 refine Sr (Vl ?_)
 refine Qn (FW_seq (Cp rfl (fun hc17 => ?_) (fun hc17 => ?_)))
 ·have hlt : i < c.s.length := by omega
  obtain ⟨x, hx⟩ := get_some hlt
  have hsu := hexL_succ hlt
  rw [getD_of hx] at hsu
  have hxl := hexL_length (c.s.take i)
  rw [List.length_take] at hxl
  have hcl := x.toNat_lt
  refine Sk (FW_seq (FW_block (Sr (Vv (Gives.idxR rfl rfl (rd_bytes (hr9 _ (H15.obj At0))) hlt) (Vv (Gives.loadW (i := i) (f := 0) (c := x) rfl (rd_bytes (hr9 _ (H15.obj At0))) hx rfl) ?_)))))
  refine Am ?_
  refine Nx (Mv ?_)
  refine Vv (Gives.shrN (m := x.toNat) (s := 4) rfl rfl (by decide)) (Vv (Gives.idxD (l := hexS) (i := x.toNat / 16) rfl rfl (by show x.toNat / 16 < 16; omega)) ?_)
  rw [hexS_at (by omega)]
  obtain ⟨F0, hp0, hS0, hput0⟩ := H15.focus At1
  refine FL_call (writeByte_ok _ hp0 (by simp; omega)) rfl rfl (fun v' w26 hv => ?_)
  obtain ⟨rfl, hkk, F1, hq2, hs⟩ := hv
  have H26 := hput0 _ F1 _ hkk hq2 hs
  refine Qn (FW_region (Mv ?_))
  refine Vv (Gives.andE (c := ((x.toNat % 16 : Nat) : Int)) rfl rfl (and15b hcl)) (Vv (Gives.idxD (l := hexS) (i := x.toNat % 16) rfl rfl (by show x.toNat % 16 < 16; omega)) ?_)
  rw [hexS_at (by omega)]
  obtain ⟨F0, hp0, hS0, hput0⟩ := H26.focus At1
  refine FL_call (writeByte_ok _ hp0 (by simp; omega)) rfl rfl (fun v' w31 hv => ?_)
  obtain ⟨rfl, hkk, F1, hq2, hs⟩ := hv
  have H31 := hput0 _ F1 _ hkk hq2 hs
  rw [show (120 :: hexL (c.s.take i)) ++ [hexB (x.toNat / 16)] ++ [hexB (x.toNat % 16)] = 120 :: hexL (c.s.take (i + 1)) from by rw [hsu]; simp] at H31
  refine FL_nil (Qblk_normal (Qseq_normal (FW_region (Vv (Gives.addI rfl rfl rfl (by omega)) ?_))))
  refine Mv ?_
  refine FL_nil ?_
  exact Qround_normal (i + 1) ⟨rfl, rfl, rfl, rfl, trivial⟩ ⟨by omega, H31⟩ (by omega)
 have hil : i = c.s.length := by omega
 refine FW_exit (Qseq_exit (Qround_exit (Qblk_exit (Qseq_normal (Sr ?_)))))
 have hxl2 := hexL_length c.s
 rw [hil, List.take_length] at H15
 obtain ⟨F0, hp0, hS0, hput0⟩ := H15.focus At1
 refine FL_call (string_ok hp0 (by simp; omega)) rfl rfl (fun v' w37 hv => ?_)
 obtain ⟨rfl, hkk, F1, hq2, hs⟩ := hv
 have H37 := hput0 _ F1 _ hkk hq2 hs
 refine Am ?_
 refine Qn (FW_ret (Qfn_ret (hR := ?_)))
 exact ⟨rfl, H37.kept⟩
end
end Go.Proofs.YtolaedhdjcnijaaGreatDoor
namespace Go.Mw
section gives
variable {P : Program} {ρ : Operand → Value} {ty : TypeId} {w : World} {x y : Operand} {T U : TypeId} {k : IntKind} {a b c : Int}
theorem Gives.shlE {yk : IntKind} (hx : ρ x = .int k a) (hy : ρ y = .int yk b) (h0 : 0 ≤ b) (he : k.wrap (a * 2 ^ (Min.min b.toNat k.bits)) = c) : Gives P ρ (.binOp .shl T x y U) ty w (.int k c) w := by subst he; exact Gives.shl hx hy h0
theorem Gives.maxE {ts : Array TypeId} (hx : ρ x = .int k a) (hy : ρ y = .int k b) (he : Max.max a b = c) : Gives P ρ (.call { callee := .builtin .max, args := #[x, y], argTypes := ts }) ty w (.int k c) w := by subst he; exact Gives.max hx hy
end gives
end Go.Mw
namespace Go.Proofs.YtolaedhdjcnijaaGreatDoor
open Go Go.Mw Go.Lib
set_option maxRecDepth 4000
theorem index_hex (c : UInt8) : max 0 (Lib.indexByte hexS c) = (((hexD c).getD 0 : Nat) : Int) := by
 have key : ∀ i : Fin 256, max 0 (Lib.indexByte hexS i.val.toUInt8) = (((hexD i.val.toUInt8).getD 0 : Nat) : Int) := by decide +kernel
 have := key ⟨c.toNat, c.toNat_lt⟩
 have e : (c.toNat).toUInt8 = c := by simp
 simpa only [e] using this
theorem hexD_lt16 (c : UInt8) : (hexD c).getD 0 < 16 := by
 unfold hexD
 split
 ·rw [Option.getD_some]; omega
 split
 ·rw [Option.getD_some]; omega
 decide
theorem or_hex {a b : Nat} (ha : a < 16) (hb : b < 16) : bits .or .i64 ((16 * a : Nat) : Int) (b : Int) = ((a * 16 + b : Nat) : Int) := by
 have key : ∀ i j : Fin 16, bits .or .i64 ((16 * i.val : Nat) : Int) (j.val : Int) = ((i.val * 16 + j.val : Nat) : Int) := by decide +kernel
 exact key ⟨a, ha⟩ ⟨b, hb⟩
theorem pairsL_two (a b : UInt8) (t : List UInt8) : pairsL (a :: b :: t) = ((hexD a).getD 0 * 16 + (hexD b).getD 0).toUInt8 :: pairsL t := rfl
theorem pairsL_short {l : List UInt8} (h : l.length ≤ 1) : pairsL l = [] := by
 match l, h with
 | [], _ => rfl
 | [_], _ => rfl
section
variable {w : World}
theorem indexByte_ok (l : List UInt8) (c : UInt8) : Rets Tryz.prog 89 [str l, B c] w fun v w' => v = I (Lib.indexByte l c) ∧ w = w' :=
 rets_same (by
  have := Tryz.strings_IndexByte ⟨l.toArray⟩ (c.toNat : Int) w
  have e : ((c.toNat : Int).toNat).toUInt8 = c := by simp
  rw [e] at this
  exact this)
theorem cutPrefix_ok (l p : List UInt8) : Rets Tryz.prog 252 [str l, str p] w fun v w' => v = .tuple #[str (Lib.trimPrefix l p), .bool (Lib.hasPrefix l p)] ∧ w = w' :=
 rets_same (Tryz.strings_CutPrefix ⟨l.toArray⟩ ⟨p.toArray⟩ w)
theorem unhexE_ok (l : List UInt8) (hl : l.length ≤ 1000000) (h0 : l.head? = some 120) : Rets Tryz.prog 223 [str l] w fun v w' => v = agg (cellCells ⟨false, 0, pairsL (l.drop 1)⟩) ∧ Kept noB w w' := by
 have H := Sep.start0 w
 have htrim : Lib.trimPrefix l [120] = l.drop 1 := by
  cases l with
  | nil => cases h0
  | cons c t =>
   injection h0 with h0
   subst h0
   rfl
 refine retsC1 Tryz.func223 rfl rfl rfl rfl ?_
 refine Sr (FL_alloc H (h := fun b1 w2 H2 k1 => ?_))
 refine Nx (Mv ?_)
 refine FL_callS (cutPrefix_ok l [120]) (h := ?_)
 rw [htrim]
 refine Mv ?_
 refine Vx ?_
 refine Vx ?_
 refine Am ?_
 refine Nx (Am ?_)
 refine Qn (FW_seq (FW_block ?_))
 have H11 := H2.nilBytes 5
 refine FW_loop' (fun x : List UInt8 × List UInt8 × Value => [(0, str x.1), (2, .pointer (some ⟨b1, 0, none⟩)), (3, x.2.2)]) (fun x w' => (x.1.length ≤ l.length ∧ x.2.1.length + x.1.length ≤ l.length ∧ x.2.1 ++ pairsL x.1 = pairsL (l.drop 1)) ∧ Sep w noB [bytesH 5 x.2.2 x.2.1, blk b1 (cellCells cell0) 47] w') (fun x _ => x.1.length) (l.drop 1, [], .slice none 0 0) ⟨rfl, rfl, rfl, trivial⟩ ⟨⟨by dsimp only; rw [List.length_drop]; omega, by simp, rfl⟩, H11⟩ (fun x τ w11 hI => ?_)
 obtain ⟨s, acc, v1⟩ := x
 obtain ⟨⟨hs1, hs2, hst⟩, H11⟩ := hI
 dsimp only at hs1 hs2 hst H11
 try simp only [upds, like, upd_ds, und_ds]
 refine FW_seq (Sr (Mv ?_))
 refine Vt ?_
 refine Vg ?_
 refine Qn (Cp rfl (fun hc15 => ?_) (fun hc15 => ?_))
 ·have hlt : 1 < s.length := by omega
  obtain ⟨a, b, t, rfl⟩ : ∃ a b t, s = a :: b :: t := by
   match s, hlt with
   | a :: b :: t, _ => exact ⟨a, b, t, rfl⟩
  rw [pairsL_two] at hst
  have ha := hexD_lt16 a
  have hb := hexD_lt16 b
  have hbv : Value.int .u8 (((hexD a).getD 0 * 16 + (hexD b).getD 0 : Nat) : Int) = B ((hexD a).getD 0 * 16 + (hexD b).getD 0).toUInt8 := (B_of (by omega)).symm
  simp only [List.length_cons] at hs1 hs2
  refine Sk (FW_seq (FW_block (FW_drawS rfl H11 (h := fun hok17 w19 H19 => ?_))))
  refine Gm hok17 0 ?_
  refine Gm hok17 1 ?_
  refine Gp hok17 2 rfl rfl (fun _ => (Gives.idxD (i := 0) rfl rfl (by omega))) (Gm hok17 6 ?_)
  refine Gp hok17 7 rfl rfl (fun _ => (Gives.idxD (i := 1) rfl rfl (by omega))) (FGcallS hok17 3 [(7, true), (6, true), (0, true)] H19 (indexByte_ok hexS a) (h := fun w23 H23 => ⟨Stab_pure (Stab_pure (Stab_pure (Stab_nil))), ?_⟩))
  refine Gp hok17 4 rfl rfl (fun _ => (Gives.maxE rfl rfl (index_hex a))) (Gp hok17 5 rfl rfl (fun _ => (Gives.shlE (c := ((16 * (hexD a).getD 0 : Nat) : Int)) rfl rfl (by omega) (by show IntKind.i64.wrap (((hexD a).getD 0 : Nat) * 16) = _; rw [IntKind.wrap_i64]; omega))) ?_)
  refine FGcallS hok17 8 [(5, true), (4, true), (0, true)] H23 (indexByte_ok hexS b) (h := fun w27 H27 => ⟨Stab_pure (Stab_pure (Stab_pure (Stab_nil))), ?_⟩)
  refine Gp hok17 9 rfl rfl (fun _ => (Gives.maxE rfl rfl (index_hex b))) (Gp hok17 10 rfl rfl (fun _ => (Gives.orE rfl rfl (or_hex ha hb))) ?_)
  refine Gp hok17 11 rfl rfl (fun _ => (Gives.convU8 rfl (by omega))) (FGbuildSlice hok17 12 [(0, true)] H27 (xs := [.tmp 25]) (out := [((hexD a).getD 0 * 16 + (hexD b).getD 0).toUInt8].map B) (Elems.one rfl rfl Elems.nil) (h := fun bs w32 H32 => ⟨Stab_pure (Stab_nil), ?_⟩))
  refine FGappendB hok17 13 [] H32 (news := [((hexD a).getD 0 * 16 + (hexD b).getD 0).toUInt8]) At0 (by simp; omega) (h := fun v2 w34 H34 => ⟨Stab_nil, ?_⟩)
  refine FGset hok17 14 [] (h := ⟨Stab_nil, ?_⟩)
  refine FG_end hok17 (by kernel_rfl) ?_
  refine Qblk_normal (Qseq_normal (FW_region (Mv ?_)))
  refine Vv (Gives.sliceFromT (l := a :: b :: t) (i := 2) rfl rfl (by simp)) ?_
  refine Am ?_
  refine FL_nil ?_
  exact Qround_normal (t, acc ++ [((hexD a).getD 0 * 16 + (hexD b).getD 0).toUInt8], v2) ⟨rfl, rfl, rfl, trivial⟩ ⟨⟨by dsimp only; omega, by dsimp only; rw [List.length_append]; simp; omega, by dsimp only; rw [List.append_assoc]; exact hst⟩, H34⟩ (by simp; omega)
 have hsh : s.length ≤ 1 := by omega
 rw [pairsL_short hsh, List.append_nil] at hst
 refine FW_exit (Qseq_exit (Qround_exit (Qblk_exit (Qseq_normal (Sr (Mv ?_))))))
 refine Vv (Gives.bytesO H11 At0 rfl) (Vv (Gives.build (out := cellCells ⟨false, 0, acc⟩) (Fills.one rfl rfl rfl (by simp) rfl Fills.nil)) ?_)
 refine FL_storeAll H11 (h := fun w45 H45 => ?_)
 refine Qn (FW_ret (QfnC_ret (h := ?_)))
 exact ⟨_, resC1 H45, by rw [hst]; rfl, H45.kept⟩
end
def typeRaw : TypeM := ⟨5, false⟩
def textRaw (c : CellM) : List UInt8 × Int := if checkC typeRaw c = 0 then (120 :: hexL c.s, 0) else ([], checkC typeRaw c)
theorem raw_null {c : CellM} (h : checkC typeRaw c = 0) : c.null = false ∧ c.s.length ≤ 1024 := by
 unfold checkC at h
 have e : mayT typeRaw = true := rfl
 rw [e, if_neg (by decide)] at h
 cases hn : c.null with
 | true => rw [hn, if_pos rfl] at h; split at h <;> rename_i hx; exact absurd hx.1 (by decide); cases h
 | false =>
  rw [hn, if_neg (by decide)] at h
  split at h
  ·rename_i hx
   have : isC typeRaw.kind c = decide (c.n = 0 ∧ c.s.length ≤ 1024) := rfl
   rw [this, decide_eq_true_eq] at hx
   exact ⟨rfl, hx.2⟩
  cases h
section
variable {w : World}
theorem textRaw_ok (c : CellM) (hf : fits c.n) (hT : TabsU w) : Rets Tryz.prog 128 [agg (typeCells typeRaw), agg (cellCells c)] w fun v w' => v = .tuple #[str (textRaw c).1, I (textRaw c).2] ∧ Kept noB w w' := by
 have H := Sep.start0 w
 refine rets2 Tryz.func128 rfl rfl rfl rfl ?_
 refine Sr (FL_box H (cs := typeCells typeRaw) rfl (h := fun b0 w2 H2 k0 => ?_))
 refine FL_box H2 (h := fun b3 w4 H4 k3 => ?_)
 refine Am ?_
 refine Am ?_
 refine Qn (FW_seq (Sr (FL_loadAll H4 (h := ?_))))
 refine FL_loadAll H4 (h := ?_)
 refine FL_callQ H4 (cellCheck_ok typeRaw c hf (hT.keep H4.kept)) (h := fun w10 H10 k9 => ?_)
 refine Am ?_
 refine Nx (Mv ?_)
 refine Vn ?_
 refine Qn (Cp rfl (fun hc14 => ?_) (fun hc14 => ?_))
 ·have hres : textRaw c = ([], checkC typeRaw c) := if_neg hc14
  refine Sr (Mv ?_)
  refine Am ?_
  refine Am ?_
  refine Qn (Rs (Qfn_ret (hR := ?_)))
  exact ⟨by rw [hres]; rfl, H10.kept⟩
 have hck : checkC typeRaw c = 0 := by simpa using hc14
 have hres : textRaw c = (120 :: hexL c.s, 0) := if_pos hck
 obtain ⟨hnn, hsl⟩ := raw_null hck
 refine Sk (FW_seq (Sr (Vf ?_)))
 refine Ld H10 ?_
 refine Qn (Cd rfl (fun hc23 => ?_) (fun hc23 => ?_))
 ·exact absurd hc23 (by rw [hnn]; decide)
 refine Sk (FW_seq (FW_drawS rfl H10 (h := fun hok25 w27 H27 => ?_)))
 refine FGloadAll hok25 0 H27 (h := ?_)
 refine FGloadAll hok25 3 H27 (h := ?_)
 refine FGcall hok25 1 [(3, false)] rfl (by kernel_rfl) (of_ok typeRaw (by decide) (by decide) (hT.keep H27.kept)) rfl (by kernel_rfl) (by kernel_rfl) (fun v' w31 hv => ?_)
 obtain ⟨⟨isF, rfl, _⟩, hkk⟩ := hv
 have H31 := H27.keep hkk
 rw [show kindF typeRaw.kind = kF5 from rfl]
 refine ⟨(Stab_cons rfl (by kernel_rfl) (Gives.loadN rfl (H31.obj At0) (us := cellCells c) rfl rfl) rfl (Stab_nil)), ?_⟩
 refine Gp hok25 2 rfl rfl (fun _ => (Gives.fieldOf1 rfl rfl)) (FGcallV hok25 4 [] (y := .tmp 17) (f := 222) (fs := []) (cs := []) (vals := [agg (cellCells c)]) rfl (hexE_ok c (by omega)) (h := fun v' w34 hv => ?_))
 obtain ⟨rfl, hkk2⟩ := hv
 have H34 := H31.keep hkk2
 refine ⟨Stab_nil, ?_⟩
 refine Gp hok25 5 rfl rfl (fun _ => Gives.assign rfl) (Gp hok25 6 rfl rfl (fun _ => Gives.assign rfl) ?_)
 refine FG_end hok25 (by kernel_rfl) ?_
 refine Qseq_normal (FW_ret (Qfn_ret (hR := ?_)))
 exact ⟨by rw [hres]; rfl, H34.kept⟩
theorem readRaw_ok (l : List UInt8) (hl : l.length ≤ 1000000) (h0 : l.head? = some 120) (hT : TabsU w) : Rets Tryz.prog 147 [agg (typeCells typeRaw), str l] w fun v w' => (∃ e, v = .tuple #[agg (cellCells ⟨false, 0, readX l⟩), I e]) ∧ Kept noB w w' := by
  have H := Sep.start0 w
  obtain ⟨s, hs⟩ : ∃ s, s = pairsL (l.drop 1) := ⟨_, rfl⟩
  have hrx : readX l = if 120 :: hexL s = l ∧ s.length ≤ 1024 then s else [] := by rw [hs]; rfl
  have hck0 : checkC typeRaw ⟨false, 0, s⟩ = if s.length ≤ 1024 then 0 else 90 := by
    have e : isC typeRaw.kind ⟨false, 0, s⟩ = decide ((0 : Int) = 0 ∧ s.length ≤ 1024) := rfl
    have e1 : mayT typeRaw = true := rfl
    unfold checkC
    rw [e1, if_neg (by decide), if_neg (by simp), e]
    by_cases h : s.length ≤ 1024 <;> simp [h]
  refine retsC2 Tryz.func147 rfl rfl rfl rfl ?_
  refine Sr (FL_box H (cs := typeCells typeRaw) rfl (h := fun b0 w2 H2 k0 => ?_))
  refine FL_alloc H2 (h := fun b3 w4 H4 k3 => ?_)
  refine Am ?_
  refine Qn (FW_seq (Sr (FL_loadAll H4 (h := ?_))))
  refine FL_callQ H4 (cellMay_ok typeRaw) (h := fun w8 H8 k7 => ?_)
  refine Vv (Gives.notP rfl) (Qn ?_)
  refine Cp rfl (fun hc10 => ?_) (fun hc10 => ?_)
  · exact absurd hc10 (by decide)
  refine Sk (Sr (FL_loadAll H8 (h := ?_)))
  refine FL_call (of_ok typeRaw (by decide) (by decide) (hT.keep H8.kept)) rfl rfl (fun v' w14 hv => ?_)
  obtain ⟨⟨isF, rfl, _⟩, hkk⟩ := hv
  have H14 := H8.keep hkk
  rw [show kindF typeRaw.kind = kF5 from rfl]
  refine Vv (Gives.fieldOf1 rfl rfl) (Mv ?_)
  refine FL_callV (f := 223) (fs := []) (cs := []) (vals := [str l]) rfl (unhexE_ok l hl h0) rfl rfl (fun v' w18 hv => ?_)
  obtain ⟨rfl, hkk⟩ := hv
  have H18 := H14.keep hkk
  rw [← hs]
  refine FL_alloc H18 (h := fun b19 w20 H20 k19 => ?_)
  refine FL_storeAll H20 (h := fun w22 H22 => ?_)
  refine Qn (FW_seq (Sr (Mv ?_)))
  refine Vv (Gives.eqlT rfl rfl) (Qn ?_)
  refine Cp rfl (fun hc25 => ?_) (fun hc25 => ?_)
  · have hln : l = [110, 117, 108, 108] := hc25
    rw [hln] at h0; cases h0
  refine Sk (FW_seq (Sr (FL_loadAll H22 (h := ?_))))
  refine FL_loadAll H22 (h := ?_)
  refine FL_callQ H22 (textRaw_ok ⟨false, 0, s⟩ ⟨(by show (-9223372036854775808 : Int) ≤ 0; decide), (by show (0 : Int) ≤ 9223372036854775807; decide)⟩ (hT.keep H22.kept)) (h := fun w30 H30 k29 => ?_)
  refine Mv ?_
  refine Vx ?_
  refine Vx ?_
  refine Am ?_
  refine Am ?_
  refine Nx (Mv ?_)
  refine Vn ?_
  refine Mv ?_
  refine FL_splitP (t := 29) rfl (fun hs39 => ?_) (fun hs39 => ?_)
  · have hno : readX l = [] := by
      rw [hrx, if_neg]
      rintro ⟨_, h2⟩
      refine hs39 ?_
      unfold textRaw
      rw [hck0, if_pos h2, if_pos rfl]
    refine Of (Of (Of (Pt ?_)))
    refine Qn (FW_cond_true rfl ?_)
    refine Sr (Vv (Gives.build (out := cellCells cell0) Fills.nil) (FL_storeAll H30 (h := fun w44 H44 => ?_)))
    refine Am ?_
    refine Qn (Rs (QfnC_ret (h := ?_)))
    exact ⟨_, resC2 H44, ⟨4, by rw [hno]; rfl⟩, H44.kept⟩
  have hz : s.length ≤ 1024 := by
    refine Classical.byContradiction fun h => hs39 ?_
    unfold textRaw
    rw [hck0, if_neg h, if_neg (by decide)]
    decide
  have htx : (textRaw ⟨false, 0, s⟩).1 = 120 :: hexL s := by
    unfold textRaw
    rw [hck0, if_pos hz, if_pos rfl]
  refine On (Mv ?_)
  refine On (Mv ?_)
  refine On (Vv (Gives.neqT rfl rfl) (Pf ?_))
  refine Qn (Cp rfl (fun hc52 => ?_) (fun hc52 => ?_))
  · have hno : readX l = [] := by rw [hrx, if_neg (fun h => hc52 (by rw [htx]; exact h.1))]
    refine Sr (Vv (Gives.build (out := cellCells cell0) Fills.nil) (FL_storeAll H30 (h := fun w56 H56 => ?_)))
    refine Am ?_
    refine Qn (Rs (QfnC_ret (h := ?_)))
    exact ⟨_, resC2 H56, ⟨4, by rw [hno]; rfl⟩, H56.kept⟩
  have hyes : readX l = s := by rw [hrx, if_pos ⟨by rw [← htx]; exact Classical.not_not.1 hc52, hz⟩]
  refine Sk (Sr (FL_loadAll H30 (h := ?_)))
  refine FL_storeAll H30 (h := fun w62 H62 => ?_)
  refine Am ?_
  refine Qn (FW_ret (QfnC_ret (h := ?_)))
  exact ⟨_, resC2 H62, ⟨0, by rw [hyes]; rfl⟩, H62.kept⟩
end
end Go.Proofs.YtolaedhdjcnijaaGreatDoor
