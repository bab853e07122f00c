/-
 The library's bytes of a rune, onto a row and into a builder, walked.
-/
import Derived.Test.YtolaedhdjcnijaaGreatDoorKx18
import Derived.Laws.BitsAllLaws
set_option linter.unusedVariables false
set_option linter.unusedSimpArgs false
namespace Go.Mw
open Go.RowKit
section gives
variable {P : Program} {ρ : Operand → Value} {ty : TypeId} {w : World} {x y : Operand} {T U : TypeId} {k : IntKind} {a b c : Int}
theorem Gives.orE (hx : ρ x = .int k a) (hy : ρ y = .int k b) (he : bits .or k a b = c) : Gives P ρ (.binOp .or T x y U) ty w (.int k c) w := by subst he; exact Gives.or hx hy
theorem Gives.andE (hx : ρ x = .int k a) (hy : ρ y = .int k b) (he : bits .and k a b = c) : Gives P ρ (.binOp .and T x y U) ty w (.int k c) w := by subst he; exact Gives.and hx hy
theorem Gives.shrN {m s : Nat} {j : IntKind} (hx : ρ x = .int k m) (hy : ρ y = .int j s) (hs : s ≤ k.bits) : Gives P ρ (.binOp .shr T x y U) ty w (.int k ((m / 2 ^ s : Nat) : Int)) w := by
 have h := Gives.shr (P := P) (ty := ty) (w := w) (T := T) (U := U) hx hy (by omega)
 rw [Int.toNat_natCast, Nat.min_eq_left hs] at h
 have e : (m : Int).fdiv (2 ^ s) = ((m / 2 ^ s : Nat) : Int) := by
  rw [Int.fdiv_eq_ediv_of_nonneg _ (Int.pow_nonneg (by decide))]
  simp
 rw [e] at h
 exact h
end gives
end Go.Mw
namespace Go.Proofs.YtolaedhdjcnijaaGreatDoor
open Go Go.Mw Go.Lib
set_option maxRecDepth 4000
theorem or_fin {h n : Nat} (hh : h < 256) (hn : n < 256) (key : h ||| n = h + n) : bits .or .u8 (h : Int) (n : Int) = ((h + n : Nat) : Int) := by
 rw [u8_or_nat h n hh hn, key]
theorem or192 {x : Nat} (h : x < 32) : bits .or .u8 192 (x : Int) = ((192 + x : Nat) : Int) := by
 have key : ∀ i : Fin 32, 192 ||| i.val = 192 + i.val := by decide
 exact or_fin (h := 192) (by decide) (by omega) (key ⟨x, h⟩)
theorem or128 {x : Nat} (h : x < 64) : bits .or .u8 128 (x : Int) = ((128 + x : Nat) : Int) := by
 have key : ∀ i : Fin 64, 128 ||| i.val = 128 + i.val := by decide
 exact or_fin (h := 128) (by decide) (by omega) (key ⟨x, h⟩)
theorem or224 {x : Nat} (h : x < 16) : bits .or .u8 224 (x : Int) = ((224 + x : Nat) : Int) := by
 have key : ∀ i : Fin 16, 224 ||| i.val = 224 + i.val := by decide
 exact or_fin (h := 224) (by decide) (by omega) (key ⟨x, h⟩)
theorem or240 {x : Nat} (h : x < 8) : bits .or .u8 240 (x : Int) = ((240 + x : Nat) : Int) := by
 have key : ∀ i : Fin 8, 240 ||| i.val = 240 + i.val := by decide
 exact or_fin (h := 240) (by decide) (by omega) (key ⟨x, h⟩)
theorem and63 {x : Nat} (h : x < 256) : bits .and .u8 (x : Int) 63 = ((x % 64 : Nat) : Int) := by
 have key : ∀ i : Fin 256, i.val &&& 63 = i.val % 64 := by decide
 have := u8_and_nat x 63 h (by decide)
 rw [key ⟨x, h⟩] at this
 exact this
theorem u8w (r : Nat) : IntKind.u8.wrap (r : Int) = ((r % 256 : Nat) : Int) := by rw [IntKind.wrap_u8]; omega
def cb (n : Nat) : Value := .int .u8 (n : Int)
theorem B_of {n : Nat} (h : n < 256) : B n.toUInt8 = cb n := by
 unfold B cb
 simp [Nat.mod_eq_of_lt h]
theorem cells_enc {r : Nat} {l : List Nat} (h : encodeRuneZ r = l.map fun n : Nat => (n : Int)) (hl : ∀ n ∈ l, n < 256) : l.map cb = (encodeRune r).map B := by
 unfold encodeRune
 rw [h, List.map_map, List.map_map]
 refine List.map_congr_left fun n hn => ?_
 simp only [Function.comp, Int.toNat_natCast]
 exact (B_of (hl n hn)).symm
theorem enc2 {r : Nat} (h0 : 128 ≤ r) (h1 : r ≤ 2047) : [cb (192 + r / 64), cb (128 + r % 64)] = (encodeRune r).map B :=
 cells_enc (l := [192 + r / 64, 128 + r % 64]) (by rw [encodeRuneZ_two (by omega) (by omega)]; simp) (by intro n hn; simp at hn; omega)
theorem enc3 {r : Nat} (h : (2048 ≤ r ∧ r < 55296) ∨ (57343 < r ∧ r ≤ 65535)) : [cb (224 + r / 4096), cb (128 + r / 64 % 64), cb (128 + r % 64)] = (encodeRune r).map B :=
 cells_enc (l := [224 + r / 4096, 128 + r / 64 % 64, 128 + r % 64]) (by rw [encodeRuneZ_three (by omega)]; simp) (by intro n hn; simp at hn; omega)
theorem enc4 {r : Nat} (h0 : 65536 ≤ r) (h1 : r ≤ 1114111) : [cb (240 + r / 262144), cb (128 + r / 4096 % 64), cb (128 + r / 64 % 64), cb (128 + r % 64)] = (encodeRune r).map B :=
 cells_enc (l := [240 + r / 262144, 128 + r / 4096 % 64, 128 + r / 64 % 64, 128 + r % 64]) (by
  have e : encodeRuneZ (r : Int) = [240 + (r : Int) / 262144, 128 + (r : Int) / 4096 % 64, 128 + (r : Int) / 64 % 64, 128 + (r : Int) % 64] := by
   unfold encodeRuneZ
   rw [if_neg (by omega), if_neg (by omega), if_neg (by omega), if_pos (by omega)]
  rw [e]; simp) (by intro n hn; simp at hn; omega)
section
variable {w : World}
theorem appendNon_ok {v : Value} {l : List UInt8} {F : Nat → Prop} {r : Nat} (hp : (bytesH 5 v l).ok F w) (hl : l.length ≤ 100000000) (h0 : 128 ≤ r) (h1 : r ≤ 1114111) (hs : r < 55296 ∨ 57343 < r) :
    Rets Tryz.prog 257 [v, I32 r] w fun x w' => ∃ v', x = v' ∧ True ∧ Turn F (bytesH 5 v' (l ++ encodeRune r)) w w' := by
  have H := Sep.start1 hp
  have hel := enc_len (r : Int)
  refine rets2 Tryz.func257 rfl rfl rfl rfl ?_
  refine Sr (Am ?_)
  refine Nx (Mv ?_)
  refine Vv (Gives.convW (c := (r : Int)) rfl (by rw [IntKind.wrap_u32]; omega)) ?_
  refine Am ?_
  refine Qn (FW_block (Sr (Mv ?_)))
  refine Vv (Gives.leq rfl rfl) (Am ?_)
  refine Qn (Cp rfl (fun hc8 => ?_) (fun hc8 => ?_))
  · have hc1 := hc8
    refine Sr (Mv ?_)
    refine Mv ?_
    refine Vv (Gives.shrN (m := r) (s := 6) rfl rfl (by decide)) (Vv (Gives.convW (c := ((r / 64 : Nat) : Int)) rfl (by rw [u8w]; omega)) ?_)
    refine Vv (Gives.orE (c := ((192 + r / 64 : Nat) : Int)) rfl rfl (or192 (by omega))) (Mv ?_)
    refine Vv (Gives.convW (c := ((r % 256 : Nat) : Int)) rfl (u8w r)) (Vv (Gives.andE (c := ((r % 64 : Nat) : Int)) rfl rfl (by rw [and63 (by omega)]; omega)) ?_)
    refine Vv (Gives.orE (c := ((128 + r % 64 : Nat) : Int)) rfl rfl (or128 (by omega))) (FL_buildSlice H (xs := [.tmp 18, .tmp 22]) (out := [cb (192 + r / 64), cb (128 + r % 64)]) (Elems.one rfl rfl (Elems.one rfl rfl Elems.nil)) rfl rfl rfl (fun bs w20 H20 k19 => ?_))
    have hen : (encodeRune r).length = 2 := by have := congrArg List.length (enc2 (r := r) h0 (by omega)); simpa using this.symm
    rw [enc2 h0 (by omega)] at H20
    refine FL_appendB H20 At0 (by omega) (hc' := hen.symm) (h := ?_)
    intro v2 w22 H22
    refine Am ?_
    refine Qn (FW_ret (Qblk_ret (Qfn_ret (hR := ?_))))
    exact ⟨_, rfl, trivial, H22.turn⟩
  have hc1 := hc8
  refine FW_seq (Sr (Mv ?_))
  refine Vl ?_
  refine Am ?_
  refine Qn (Cp rfl (fun hc29 => ?_) (fun hc29 => ?_))
  · refine Sk (FW_cond_true (congrArg Value.bool (decide_eq_true hc29)) ?_)
    refine Sr (Mv ?_)
    refine Mv ?_
    refine Vv (Gives.shrN (m := r) (s := 12) rfl rfl (by decide)) (Vv (Gives.convW (c := ((r / 4096 : Nat) : Int)) rfl (by rw [u8w]; omega)) ?_)
    refine Vv (Gives.orE (c := ((224 + r / 4096 : Nat) : Int)) rfl rfl (or224 (by omega))) (Mv ?_)
    refine Vv (Gives.shrN (m := r) (s := 6) rfl rfl (by decide)) (Vv (Gives.convW (c := ((r / 64 % 256 : Nat) : Int)) rfl (u8w _)) ?_)
    refine Vv (Gives.andE (c := ((r / 64 % 64 : Nat) : Int)) rfl rfl (by rw [and63 (by omega)]; omega)) ?_
    refine Vv (Gives.orE (c := ((128 + r / 64 % 64 : Nat) : Int)) rfl rfl (or128 (by omega))) (Mv ?_)
    refine Vv (Gives.convW (c := ((r % 256 : Nat) : Int)) rfl (u8w r)) (Vv (Gives.andE (c := ((r % 64 : Nat) : Int)) rfl rfl (by rw [and63 (by omega)]; omega)) ?_)
    refine Vv (Gives.orE (c := ((128 + r % 64 : Nat) : Int)) rfl rfl (or128 (by omega))) (FL_buildSlice H (xs := [.tmp 38, .tmp 43, .tmp 47]) (out := [cb (224 + r / 4096), cb (128 + r / 64 % 64), cb (128 + r % 64)]) (Elems.one rfl rfl (Elems.one rfl rfl (Elems.one rfl rfl Elems.nil))) rfl rfl rfl (fun bs w45 H45 k44 => ?_))
    have hen : (encodeRune r).length = 3 := by have := congrArg List.length (enc3 (r := r) (by omega)); simpa using this.symm
    rw [enc3 (by omega)] at H45
    refine FL_appendB H45 At0 (by omega) (hc' := hen.symm) (h := ?_)
    intro v2 w47 H47
    refine Am ?_
    refine Qn (FW_ret (Qblk_ret (Qfn_ret (hR := ?_))))
    exact ⟨_, rfl, trivial, H47.turn⟩
  refine FW_region (Mv ?_)
  refine Vl ?_
  refine Mv ?_
  refine FL_splitP (t := 30) rfl (fun hs53 => ?_) (fun hs53 => ?_)
  · refine On (Mv ?_)
    refine On (Vv (Gives.leq rfl rfl) (Pt ?_))
    refine Am ?_
    refine Qn (Cp rfl (fun hc58 => ?_) (fun hc58 => ?_))
    · refine Sr (Mv ?_)
      refine Mv ?_
      refine Vv (Gives.shrN (m := r) (s := 12) rfl rfl (by decide)) (Vv (Gives.convW (c := ((r / 4096 : Nat) : Int)) rfl (by rw [u8w]; omega)) ?_)
      refine Vv (Gives.orE (c := ((224 + r / 4096 : Nat) : Int)) rfl rfl (or224 (by omega))) (Mv ?_)
      refine Vv (Gives.shrN (m := r) (s := 6) rfl rfl (by decide)) (Vv (Gives.convW (c := ((r / 64 % 256 : Nat) : Int)) rfl (u8w _)) ?_)
      refine Vv (Gives.andE (c := ((r / 64 % 64 : Nat) : Int)) rfl rfl (by rw [and63 (by omega)]; omega)) ?_
      refine Vv (Gives.orE (c := ((128 + r / 64 % 64 : Nat) : Int)) rfl rfl (or128 (by omega))) (Mv ?_)
      refine Vv (Gives.convW (c := ((r % 256 : Nat) : Int)) rfl (u8w r)) (Vv (Gives.andE (c := ((r % 64 : Nat) : Int)) rfl rfl (by rw [and63 (by omega)]; omega)) ?_)
      refine Vv (Gives.orE (c := ((128 + r % 64 : Nat) : Int)) rfl rfl (or128 (by omega))) (FL_buildSlice H (xs := [.tmp 38, .tmp 43, .tmp 47]) (out := [cb (224 + r / 4096), cb (128 + r / 64 % 64), cb (128 + r % 64)]) (Elems.one rfl rfl (Elems.one rfl rfl (Elems.one rfl rfl Elems.nil))) rfl rfl rfl (fun bs w74 H74 k73 => ?_))
      have hen : (encodeRune r).length = 3 := by have := congrArg List.length (enc3 (r := r) (by omega)); simpa using this.symm
      rw [enc3 (by omega)] at H74
      refine FL_appendB H74 At0 (by omega) (hc' := hen.symm) (h := ?_)
      intro v2 w76 H76
      refine Am ?_
      refine Qn (FW_ret (Qblk_ret (Qfn_ret (hR := ?_))))
      exact ⟨_, rfl, trivial, H76.turn⟩
    refine Sr (Mv ?_)
    refine Vg ?_
    refine Mv ?_
    refine FL_splitP (t := 53) rfl (fun hs82 => ?_) (fun hs82 => ?_)
    · refine On (Mv ?_)
      refine On (Vv (Gives.leq rfl rfl) (Pt ?_))
      refine Am ?_
      refine Qn (Cp rfl (fun hc87 => ?_) (fun hc87 => ?_))
      · refine Sr (Mv ?_)
        refine Mv ?_
        refine Vv (Gives.shrN (m := r) (s := 18) rfl rfl (by decide)) (Vv (Gives.convW (c := ((r / 262144 : Nat) : Int)) rfl (by rw [u8w]; omega)) ?_)
        refine Vv (Gives.orE (c := ((240 + r / 262144 : Nat) : Int)) rfl rfl (or240 (by omega))) (Mv ?_)
        refine Vv (Gives.shrN (m := r) (s := 12) rfl rfl (by decide)) (Vv (Gives.convW (c := ((r / 4096 % 256 : Nat) : Int)) rfl (u8w _)) ?_)
        refine Vv (Gives.andE (c := ((r / 4096 % 64 : Nat) : Int)) rfl rfl (by rw [and63 (by omega)]; omega)) ?_
        refine Vv (Gives.orE (c := ((128 + r / 4096 % 64 : Nat) : Int)) rfl rfl (or128 (by omega))) (Mv ?_)
        refine Vv (Gives.shrN (m := r) (s := 6) rfl rfl (by decide)) (Vv (Gives.convW (c := ((r / 64 % 256 : Nat) : Int)) rfl (u8w _)) ?_)
        refine Vv (Gives.andE (c := ((r / 64 % 64 : Nat) : Int)) rfl rfl (by rw [and63 (by omega)]; omega)) ?_
        refine Vv (Gives.orE (c := ((128 + r / 64 % 64 : Nat) : Int)) rfl rfl (or128 (by omega))) (Mv ?_)
        refine Vv (Gives.convW (c := ((r % 256 : Nat) : Int)) rfl (u8w r)) (Vv (Gives.andE (c := ((r % 64 : Nat) : Int)) rfl rfl (by rw [and63 (by omega)]; omega)) ?_)
        refine Vv (Gives.orE (c := ((128 + r % 64 : Nat) : Int)) rfl rfl (or128 (by omega))) (FL_buildSlice H (xs := [.tmp 61, .tmp 66, .tmp 71, .tmp 75]) (out := [cb (240 + r / 262144), cb (128 + r / 4096 % 64), cb (128 + r / 64 % 64), cb (128 + r % 64)]) (Elems.one rfl rfl (Elems.one rfl rfl (Elems.one rfl rfl (Elems.one rfl rfl Elems.nil)))) rfl rfl rfl (fun bs w108 H108 k107 => ?_))
        have hen : (encodeRune r).length = 4 := by have := congrArg List.length (enc4 (r := r) (by omega) h1); simpa using this.symm
        rw [enc4 (by omega) h1] at H108
        refine FL_appendB H108 At0 (by omega) (hc' := hen.symm) (h := ?_)
        intro v2 w110 H110
        refine Am ?_
        refine Qn (FW_ret (Qblk_ret (Qfn_ret (hR := ?_))))
        exact ⟨_, rfl, trivial, H110.turn⟩
      exact absurd h1 (by omega)
    exact absurd h1 (by omega)
  refine Of (Of (Pf ?_))
  refine Am ?_
  refine Qn (FW_cond_false rfl ?_)
  refine Sr (Mv ?_)
  refine Vg ?_
  refine Mv ?_
  refine FL_splitP (t := 53) rfl (fun hs120 => ?_) (fun hs120 => ?_)
  · refine On (Mv ?_)
    refine On (Vv (Gives.leq rfl rfl) (Pt ?_))
    refine Am ?_
    refine Qn (Cp rfl (fun hc125 => ?_) (fun hc125 => ?_))
    · refine Sr (Mv ?_)
      refine Mv ?_
      refine Vv (Gives.shrN (m := r) (s := 18) rfl rfl (by decide)) (Vv (Gives.convW (c := ((r / 262144 : Nat) : Int)) rfl (by rw [u8w]; omega)) ?_)
      refine Vv (Gives.orE (c := ((240 + r / 262144 : Nat) : Int)) rfl rfl (or240 (by omega))) (Mv ?_)
      refine Vv (Gives.shrN (m := r) (s := 12) rfl rfl (by decide)) (Vv (Gives.convW (c := ((r / 4096 % 256 : Nat) : Int)) rfl (u8w _)) ?_)
      refine Vv (Gives.andE (c := ((r / 4096 % 64 : Nat) : Int)) rfl rfl (by rw [and63 (by omega)]; omega)) ?_
      refine Vv (Gives.orE (c := ((128 + r / 4096 % 64 : Nat) : Int)) rfl rfl (or128 (by omega))) (Mv ?_)
      refine Vv (Gives.shrN (m := r) (s := 6) rfl rfl (by decide)) (Vv (Gives.convW (c := ((r / 64 % 256 : Nat) : Int)) rfl (u8w _)) ?_)
      refine Vv (Gives.andE (c := ((r / 64 % 64 : Nat) : Int)) rfl rfl (by rw [and63 (by omega)]; omega)) ?_
      refine Vv (Gives.orE (c := ((128 + r / 64 % 64 : Nat) : Int)) rfl rfl (or128 (by omega))) (Mv ?_)
      refine Vv (Gives.convW (c := ((r % 256 : Nat) : Int)) rfl (u8w r)) (Vv (Gives.andE (c := ((r % 64 : Nat) : Int)) rfl rfl (by rw [and63 (by omega)]; omega)) ?_)
      refine Vv (Gives.orE (c := ((128 + r % 64 : Nat) : Int)) rfl rfl (or128 (by omega))) (FL_buildSlice H (xs := [.tmp 61, .tmp 66, .tmp 71, .tmp 75]) (out := [cb (240 + r / 262144), cb (128 + r / 4096 % 64), cb (128 + r / 64 % 64), cb (128 + r % 64)]) (Elems.one rfl rfl (Elems.one rfl rfl (Elems.one rfl rfl (Elems.one rfl rfl Elems.nil)))) rfl rfl rfl (fun bs w146 H146 k145 => ?_))
      have hen : (encodeRune r).length = 4 := by have := congrArg List.length (enc4 (r := r) (by omega) h1); simpa using this.symm
      rw [enc4 (by omega) h1] at H146
      refine FL_appendB H146 At0 (by omega) (hc' := hen.symm) (h := ?_)
      intro v2 w148 H148
      refine Am ?_
      refine Qn (FW_ret (Qblk_ret (Qfn_ret (hR := ?_))))
      exact ⟨_, rfl, trivial, H148.turn⟩
    exact absurd h1 (by omega)
  exact absurd h1 (by omega)
theorem appendRune_ok {v : Value} {l : List UInt8} {F : Nat → Prop} {r : Nat} (hp : (bytesH 5 v l).ok F w) (hl : l.length ≤ 100000000) (h1 : r ≤ 1114111) (hs : r < 55296 ∨ 57343 < r) :
    Rets Tryz.prog 235 [v, I32 r] w fun x w' => ∃ v', x = v' ∧ True ∧ Turn F (bytesH 5 v' (l ++ encodeRune r)) w w' := by
  have H := Sep.start1 hp
  refine rets2 Tryz.func235 rfl rfl rfl rfl ?_
  refine Sr (Am ?_)
  refine Qn (FW_seq (Sr (Mv ?_)))
  refine Vv (Gives.convW (c := (r : Int)) rfl (by rw [IntKind.wrap_u32]; omega)) ?_
  refine Vv (Gives.leq rfl rfl) (Qn ?_)
  refine Cp rfl (fun hc5 => ?_) (fun hc5 => ?_)
  · have hone : encodeRune (r : Int) = [r.toUInt8] := by unfold encodeRune; rw [encodeRuneZ_one (by omega) (by omega)]; simp
    refine Sr (Mv ?_)
    refine Mv ?_
    refine Vv (Gives.convW (c := ((r % 256 : Nat) : Int)) rfl (u8w r)) ?_
    have hb : Value.int .u8 ((r % 256 : Nat) : Int) = B r.toUInt8 := by rw [B_of (by omega), Nat.mod_eq_of_lt (by omega)]; rfl
    refine FL_buildSlice H (xs := [.tmp 10]) (out := [r.toUInt8].map B) (Elems.one hb rfl Elems.nil) rfl rfl rfl (fun bs w11 H11 k10 => ?_)
    refine FL_appendB H11 (news := [r.toUInt8]) At0 (by simp; omega) (h := ?_)
    intro v2 w13 H13
    rw [← hone] at H13
    refine Am ?_
    refine Qn (Rs (Qfn_ret (hR := ?_)))
    exact ⟨_, rfl, trivial, H13.turn⟩
  refine Sk (Sr (Mv ?_))
  refine Mv ?_
  obtain ⟨F0, hp0, hS0, hput0⟩ := H.focus At0
  refine FL_call (appendNon_ok hp0 hl (by omega) h1 hs) rfl rfl (fun v' w19 hv => ?_)
  obtain ⟨v2, rfl, _, hkk, F1, hq, hsub⟩ := hv
  have H19 := hput0 _ F1 _ hkk hq hsub
  refine Am ?_
  refine Qn (FW_ret (Qfn_ret (hR := ?_)))
  exact ⟨_, rfl, trivial, H19.turn⟩
theorem writeRune_ok {b : Nat} {l : List UInt8} {F : Nat → Prop} {r : Nat} (hp : (bldH b l).ok F w) (hl : l.length ≤ 10000000) (h1 : r ≤ 1114111) (hs : r < 55296 ∨ 57343 < r) : Rets Tryz.prog 183 [selfP b, I32 r] w fun _ w' => Turn F (bldH b (l ++ encodeRune r)) w w' := by
 obtain ⟨a, v, ha, H⟩ := Sep.openB (Sep.start1 hp)
 obtain ⟨A, c, rfl, hle, _, _⟩ := Sep.rowForm H At1
 have hel := enc_len (r : Int)
 have hne : encodeRune (r : Int) ≠ [] := by
  intro e
  unfold encodeRune encodeRuneZ at e
  repeat' split at e
  all_goals simp at e
 refine rets2 Tryz.func183 rfl rfl rfl rfl ?_
 refine Sr (Am ?_)
 refine Am ?_
 refine Nx (Mv ?_)
 obtain ⟨F0, hp0, hS0, hput0⟩ := H.focus At0
 refine FL_call (check_ok ha.1 hp0) rfl rfl (fun v' w5 hv => ?_)
 obtain ⟨rfl, hkk, F1, hq, hsub⟩ := hv
 have H5 := hput0 _ F1 _ hkk hq hsub
 refine Nx (Mv ?_)
 refine Vv (Gives.nilCheck rfl) (Vf ?_)
 refine Ld H5 ?_
 refine Vs ?_
 refine Am ?_
 refine Nx (Mv ?_)
 refine Mv ?_
 refine Vv (Gives.nilCheck rfl) (Vf ?_)
 refine Ld H5 ?_
 refine Mv ?_
 obtain ⟨F0, hp0, hS0, hput0⟩ := H5.focus At1
 refine FL_call (appendRune_ok hp0 (by omega) h1 hs) rfl rfl (fun v' w19 hv => ?_)
 obtain ⟨v2, rfl, _, hkk, F1, hq, hsub⟩ := hv
 have H19 := hput0 _ F1 _ hkk hq hsub
 obtain ⟨A2, c2, rfl, _⟩ := Sep.rowForm H19 At1
 refine Vv (Gives.nilCheck rfl) (Vf ?_)
 refine FL_store H19 (h := fun w23 H23 => ?_)
 refine Nx (Mv ?_)
 refine Vv (Gives.nilCheck rfl) (Vf ?_)
 refine Ld H23 ?_
 refine Vs ?_
 refine Mv ?_
 refine Vv (Gives.sub rfl rfl) (Am ?_)
 refine Am ?_
 refine Qn (FW_ret (Qfn_ret (hR := ?_)))
 exact (Sep.shutB ⟨.inr rfl, fun e => absurd (List.append_eq_nil_iff.1 e).2 hne⟩ H23).turn
end
end Go.Proofs.YtolaedhdjcnijaaGreatDoor
namespace Go.Mw
open Go.RowKit
section
variable {P : Program} {r : Option Nat} {n : Nat} {ops : Array Oper} {Q : Post} {rest : List Oper} {σ : St} {w w₀ : World} {S : Nat → Prop} {rs : List HP} {put : HP → List HP} {ty : TypeId} {pos : String} {after : Array Edge}
theorem FL_rangeT {d : Nat} {x : Operand} {T : TypeId} [ht : IsStr P T] {s : ByteArray} (H : Sep w₀ S rs w) (hx : evF σ x = .string s := by exact rfl) (hd : Nat.blt d n = true := by exact rfl)
    (h : ∀ k w', Sep w₀ S (obj k (.stringIter s 0) :: rs) w' → FL P r n ops Q rest (upd σ d (.pointer (some ⟨k, 0, none⟩))) w') : FL P r n ops Q ({ dst := some d, op := .range T x, type := ty, pos := pos, after := after, guard := none } :: rest) σ w := by
  obtain ⟨k, w', hg, hs⟩ := gives_rangeT (P := P) (ty := ty) (T := T) H hx
  exact FL_val hg hd (h k w' hs)
theorem FL_nextT {d : Nat} {x : Operand} {s : ByteArray} {k i : Nat} (H : Sep w₀ S rs w) (hat : At rs (obj k (.stringIter s i)) put)
    (h1 : i < s.size → ∀ w', Sep w₀ S (put (obj k (.stringIter s (i + (Utf8.decode s i).2)))) w' → FL P r n ops Q rest (upd σ d (.tuple #[.bool true, .int .i64 i, .int .i32 (Utf8.decode s i).1])) w')
    (h2 : ¬ i < s.size → FL P r n ops Q rest (upd σ d (.tuple #[.bool false])) w) (hx : evF σ x = .pointer (some ⟨k, 0, none⟩) := by exact rfl) (hd : Nat.blt d n = true := by exact rfl) :
    FL P r n ops Q ({ dst := some d, op := .next x true, type := ty, pos := pos, after := after, guard := none } :: rest) σ w := by
  by_cases h : i < s.size
  · obtain ⟨w', hg, hs⟩ := gives_nextT (P := P) (ty := ty) H hat hx h
    exact FL_val hg hd (h1 h w' hs)
  exact FL_val (gives_nextEnd (P := P) (ty := ty) H hat hx h) hd (h2 h)
end
end Go.Mw
namespace Go.Proofs.YtolaedhdjcnijaaGreatDoor
open Go Go.Mw Go.Lib
theorem enc_high {r : Nat} (h : 128 ≤ r) (h1 : r ≤ 1114111) : ∀ c ∈ encodeRune (r : Int), 128 ≤ c.toNat := by
 intro c hc
 unfold encodeRune at hc
 obtain ⟨x, hx, rfl⟩ := List.mem_map.1 hc
 unfold encodeRuneZ at hx
 rw [if_neg (by omega)] at hx
 repeat' split at hx
 all_goals (simp only [List.mem_cons, List.not_mem_nil, or_false] at hx)
 all_goals (rcases hx with rfl | rfl | rfl | rfl <;> simp <;> omega)
theorem flat_highB {l : List UInt8} (h : ∀ c ∈ l, 128 ≤ c.toNat) : l.flatMap quoteB = l := by
 induction l with
 | nil => rfl
 | cons c t ih =>
  rw [List.flatMap_cons, quoteB_high (h c (by simp)), ih (fun x hx => h x (by simp [hx]))]; rfl
theorem valid_rune (r : Nat) (h1 : r ≤ 1114111) (h : r < 55296 ∨ 57343 < r) : Utf8.valid (r : Int) = true := by
 simp [Utf8.valid]; omega
theorem encL1 (r : Nat) (v : Utf8.valid (r : Int) = true) (c1 : r < 128) : (Utf8.encode (r : Int)).data.toList = [UInt8.ofNat r] := by
 simp [Utf8.encode, v, c1]
theorem encL2 (r : Nat) (v : Utf8.valid (r : Int) = true) (c1 : ¬ r < 128) (c2 : r < 2048) : (Utf8.encode (r : Int)).data.toList = [UInt8.ofNat (192 + r / 64), UInt8.ofNat (128 + r % 64)] := by
 simp [Utf8.encode, v, c1, c2]
theorem encL3 (r : Nat) (v : Utf8.valid (r : Int) = true) (c1 : ¬ r < 128) (c2 : ¬ r < 2048) (c3 : r < 65536) : (Utf8.encode (r : Int)).data.toList = [UInt8.ofNat (224 + r / 4096), UInt8.ofNat (128 + r / 64 % 64), UInt8.ofNat (128 + r % 64)] := by
 simp [Utf8.encode, v, c1, c2, c3]
theorem encL4 (r : Nat) (v : Utf8.valid (r : Int) = true) (c1 : ¬ r < 128) (c2 : ¬ r < 2048) (c3 : ¬ r < 65536) : (Utf8.encode (r : Int)).data.toList = [UInt8.ofNat (240 + r / 262144), UInt8.ofNat (128 + r / 4096 % 64), UInt8.ofNat (128 + r / 64 % 64), UInt8.ofNat (128 + r % 64)] := by
 simp [Utf8.encode, v, c1, c2, c3]
theorem en_eq (n : Nat) (z : Int) (e : z.toNat = n) : z.toNat.toUInt8 = UInt8.ofNat n := by rw [e]
theorem encL_of (r : Int) (l : List UInt8) (e : (Utf8.encode r).data.toList = l) : encL r = l := by
 have h2 : Utf8.encode r = ⟨(encL r).toArray⟩ := Value.string.inj (str_encode r)
 have h3 := congrArg (fun b : ByteArray => b.data.toList) h2
 exact h3.symm.trans e
theorem encL_eq (r : Nat) (h1 : r ≤ 1114111) (h : r < 55296 ∨ 57343 < r) : encL (r : Int) = encodeRune (r : Int) := by
 have v := valid_rune r h1 h
 unfold encodeRune
 by_cases c1 : r < 128
 ·have e1 := en_eq r (r : Int) (by omega)
  rw [encodeRuneZ_one (by omega) (by omega), encL_of _ _ (encL1 r v c1), List.map_cons, List.map_nil, e1]
 by_cases c2 : r < 2048
 ·have e1 := en_eq (192 + r / 64) (192 + (r : Int) / 64) (by omega)
  have e2 := en_eq (128 + r % 64) (128 + (r : Int) % 64) (by omega)
  rw [encodeRuneZ_two (by omega) (by omega), encL_of _ _ (encL2 r v c1 c2), List.map_cons, List.map_cons, List.map_nil, e1, e2]
 by_cases c3 : r < 65536
 ·have e1 := en_eq (224 + r / 4096) (224 + (r : Int) / 4096) (by omega)
  have e2 := en_eq (128 + r / 64 % 64) (128 + (r : Int) / 64 % 64) (by omega)
  have e3 := en_eq (128 + r % 64) (128 + (r : Int) % 64) (by omega)
  rw [encodeRuneZ_three (by omega), encL_of _ _ (encL3 r v c1 c2 c3), List.map_cons, List.map_cons, List.map_cons, List.map_nil, e1, e2, e3]
 have e1 := en_eq (240 + r / 262144) (240 + (r : Int) / 262144) (by omega)
 have e2 := en_eq (128 + r / 4096 % 64) (128 + (r : Int) / 4096 % 64) (by omega)
 have e3 := en_eq (128 + r / 64 % 64) (128 + (r : Int) / 64 % 64) (by omega)
 have e4 := en_eq (128 + r % 64) (128 + (r : Int) % 64) (by omega)
 rw [encodeRuneZ_four (by omega) (by omega), encL_of _ _ (encL4 r v c1 c2 c3), List.map_cons, List.map_cons, List.map_cons, List.map_cons, List.map_nil, e1, e2, e3, e4]
theorem rune_shape {s : List UInt8} {r n : Nat} (h : nextL s = some (r, n)) : r ≤ 1114111 ∧ (r < 55296 ∨ 57343 < r) := by
 unfold nextL at h
 split at h
 ·cases h
 rename_i hn
 injection h with h
 have h1 : (decodeL s).1 = r := by rw [h]
 have h2 : (decodeL s).2 = n := by rw [h]
 rw [decodeL_N] at h1 h2 hn
 have hb : (s.getD 0 0).toNat < 256 := (s.getD 0 0).toNat_lt
 rcases decodeN_shape s.length (s.getD 0 0).toNat (s.getD 1 0).toNat (s.getD 2 0).toNat (s.getD 3 0).toNat with ⟨a, e⟩ | ⟨a1, a2, a3, a4, e⟩ | ⟨a1, a2, a3, a4, a5, a6, e⟩ | ⟨a1, a2, a3, a4, a5, a6, a7, e⟩ | e
 ·rw [e] at h1; simp only at h1; omega
 ·rw [e] at h1; simp only at h1; omega
 ·rw [e] at h1; simp only at h1; omega
 ·rw [e] at h1; simp only at h1; omega
 rw [e] at hn; exact absurd (.inr ⟨rfl, rfl⟩) hn
theorem rune_low {s : List UInt8} {r n : Nat} (h : nextL s = some (r, n)) (hr : r < 128) : n = 1 ∧ s.take 1 = [r.toUInt8] := by
 obtain ⟨_, h1, h2, h3⟩ := next_some h
 have e : encodeRune (r : Int) = [r.toUInt8] := by unfold encodeRune; rw [encodeRuneZ_one (by omega) (by omega)]; simp
 rw [e] at h3
 have := congrArg List.length h3
 rw [List.length_take] at this
 simp at this
 have hn : n = 1 := by omega
 subst hn
 exact ⟨rfl, h3.symm⟩
theorem rune_step {l : List UInt8} {i : Nat} (hv : validD (l.drop i) = true) (hlt : i < l.length) : ∃ r n : Nat, Utf8.decode ⟨l.toArray⟩ i = (r, n) ∧ 1 ≤ n ∧ i + n ≤ l.length ∧ validD (l.drop (i + n)) = true ∧ r ≤ 1114111 ∧ (r < 55296 ∨ 57343 < r) ∧
    (r < 128 → outQ l (i + n) = outQ l i ++ quoteB r.toUInt8) ∧ (128 ≤ r → outQ l (i + n) = outQ l i ++ encodeRune (r : Int)) := by
  have hne : l.drop i ≠ [] := fun e => by have := congrArg List.length e; rw [List.length_drop] at this; simp at this; omega
  have hs := valid_step hne
  rw [hv] at hs
  cases hx : nextL (l.drop i) with
  | none => rw [hx] at hs; cases hs
  | some p =>
    obtain ⟨r, n⟩ := p
    rw [hx] at hs
    dsimp only at hs
    obtain ⟨e1, h1, h2, h3⟩ := next_some hx
    obtain ⟨s1, s2⟩ := rune_shape hx
    rw [List.length_drop] at h2
    have hd : Utf8.decode ⟨l.toArray⟩ i = (r, n) := by rw [← decodeL_drop]; exact e1
    have hdv : validD (l.drop (i + n)) = true := by
      rw [List.drop_drop] at hs
      exact hs.symm
    have hout : outQ l (i + n) = outQ l i ++ ((l.drop i).take n).flatMap quoteB := by
      unfold outQ
      rw [List.take_add, List.flatMap_append]; rfl
    refine ⟨r, n, hd, h1, by omega, hdv, s1, s2, fun h => ?_, fun h => ?_⟩
    · obtain ⟨hn, ht⟩ := rune_low hx h
      rw [hout, hn, ht]; simp
    rw [hout, ← h3, flat_highB (fun c hc => enc_high h s1 c hc)]
theorem short_quote {r : Nat} {c : UInt8} (h : shortM r = some c) : r < 128 ∧ quoteB r.toUInt8 = [92] ++ encodeRune (c.toNat : Int) ∧ c.toNat < 128 := by
 unfold shortM at h
 by_cases h1 : (r : Int) = 34
 ·rw [if_pos h1] at h; injection h with h; subst h; have : r = 34 := by omega
  subst this; exact ⟨by decide, by decide, by decide⟩
 rw [if_neg h1] at h
 by_cases h1 : (r : Int) = 92
 ·rw [if_pos h1] at h; injection h with h; subst h; have : r = 92 := by omega
  subst this; exact ⟨by decide, by decide, by decide⟩
 rw [if_neg h1] at h
 by_cases h1 : (r : Int) = 8
 ·rw [if_pos h1] at h; injection h with h; subst h; have : r = 8 := by omega
  subst this; exact ⟨by decide, by decide, by decide⟩
 rw [if_neg h1] at h
 by_cases h1 : (r : Int) = 12
 ·rw [if_pos h1] at h; injection h with h; subst h; have : r = 12 := by omega
  subst this; exact ⟨by decide, by decide, by decide⟩
 rw [if_neg h1] at h
 by_cases h1 : (r : Int) = 10
 ·rw [if_pos h1] at h; injection h with h; subst h; have : r = 10 := by omega
  subst this; exact ⟨by decide, by decide, by decide⟩
 rw [if_neg h1] at h
 by_cases h1 : (r : Int) = 13
 ·rw [if_pos h1] at h; injection h with h; subst h; have : r = 13 := by omega
  subst this; exact ⟨by decide, by decide, by decide⟩
 rw [if_neg h1] at h
 by_cases h1 : (r : Int) = 9
 ·rw [if_pos h1] at h; injection h with h; subst h; have : r = 9 := by omega
  subst this; exact ⟨by decide, by decide, by decide⟩
 rw [if_neg h1] at h
 cases h
theorem long_quote {r : Nat} (h : shortM r = none) : (r < 32 → quoteB r.toUInt8 = [92, 117, 48, 48, hexB (r / 16), hexB (r % 16)]) ∧ (32 ≤ r → r < 128 → quoteB r.toUInt8 = encodeRune (r : Int)) := by
 have hne : r ≠ 34 ∧ r ≠ 92 ∧ r ≠ 8 ∧ r ≠ 12 ∧ r ≠ 10 ∧ r ≠ 13 ∧ r ≠ 9 := by
  refine ⟨?_, ?_, ?_, ?_, ?_, ?_, ?_⟩ <;> (intro e; subst e; revert h; decide)
 constructor
 ·intro h32
  have hn : (r.toUInt8).toNat = r := by simp; omega
  rw [quoteB_nat, hn, if_neg (by omega), if_neg (by omega), if_neg (by omega), if_neg (by omega), if_neg (by omega), if_neg (by omega), if_neg (by omega), if_pos h32]
 intro h32 h128
 have hn : (r.toUInt8).toNat = r := by simp; omega
 rw [quoteB_nat, hn, if_neg (by omega), if_neg (by omega), if_neg (by omega), if_neg (by omega), if_neg (by omega), if_neg (by omega), if_neg (by omega), if_neg (by omega)]
 unfold encodeRune
 rw [encodeRuneZ_one (by omega) (by omega)]; simp
section
variable {w : World}
theorem and15 {x : Nat} (h : x < 32) : bits .and .i32 (x : Int) 15 = ((x % 16 : Nat) : Int) := by
 have key : ∀ i : Fin 32, bits .and .i32 (i.val : Int) 15 = ((i.val % 16 : Nat) : Int) := by decide
 exact key ⟨x, h⟩
set_option maxRecDepth 4000
theorem quoteE_ok (l : List UInt8) (hl : l.length ≤ 1000000) (hT : TabsU w) : Rets Tryz.prog 127 [str l] w fun v w' => v = .tuple #[str (quoteP l).1, I (quoteP l).2] ∧ Kept noB w w' := by
 have H := Sep.start0 w
 refine rets1 Tryz.func127 rfl rfl rfl rfl ?_
 refine Sr (Am ?_)
 refine Am ?_
 refine Qn (FW_seq (Sr (Mv ?_)))
 refine FL_callQ H (utfValid_ok l (by omega) (hT.keep H.kept)) (h := fun w5 H5 k4 => ?_)
 refine Vv (Gives.not rfl) (Qn ?_)
 refine Cd rfl (fun hc7 => ?_) (fun hc7 => ?_)
 ·have hq : quoteP l = ([], 40) := if_neg (by simpa using hc7)
  refine Sr (Am ?_)
  refine Am ?_
  refine Qn (Rs (Qfn_ret (hR := ?_)))
  exact ⟨by rw [hq]; rfl, H5.kept⟩
 have hv : validD l = true := by simpa using hc7
 have hq : quoteP l = (quoteL l, 0) := if_pos hv
 refine Sk (Sr (FL_alloc H5 (h := fun b4 w14 H14 k13 => ?_)))
 replace H14 := Sep.newB H14
 refine Nx ?_
 obtain ⟨F0, hp0, hS0, hput0⟩ := H14.focus At0
 refine FL_call (writeByte_ok 34 hp0 (by simp)) rfl rfl (fun v' w16 hv => ?_)
 obtain ⟨rfl, hkk, F1, hq2, hs⟩ := hv
 have H16 := hput0 _ F1 _ hkk hq2 hs
 refine Nx (FL_call (short_ok) rfl rfl (fun v' w18 hv => ?_))
 obtain ⟨m, rfl, _, hkk, F1, hq2, hsub⟩ := hv
 have H18 := H16.new hkk hq2 (fun b hb => (hsub b hb).resolve_left id)
 refine Am ?_
 refine Qn (FW_seq (Sr (Mv ?_)))
 refine FL_rangeT H18 (h := fun k w22 H22 => ?_)
 refine Qn (FW_block (FW_loop' (fun _ : Nat => [(0, str l), (4, selfP b4), (5, .map (some m)), (16, .pointer (some ⟨k, 0, none⟩))]) (fun i w' => (i ≤ l.length ∧ validD (l.drop i) = true) ∧ Sep w noB [obj k (.stringIter ⟨l.toArray⟩ i), obj m (.map shortsA 7), bldH b4 (outQ l i)] w') (fun i _ => l.length - i) 0 ⟨rfl, rfl, rfl, rfl, trivial⟩ ⟨⟨Nat.zero_le _, hv⟩, H22⟩ (fun i τ w24 hI => ?_)))
 obtain ⟨⟨hi, hvd⟩, H24⟩ := hI
 try simp only [upds, like, upd_ds, und_ds]
 refine Sr (FL_nextT H24 At0 (h1 := fun hn25 w27 H27 => ?_) (h2 := fun hn25 => ?_))
 ·have hlt : i < l.length := by rw [Mw.size_mk] at hn25; exact hn25
  obtain ⟨r, n, hdec, hn1, hin, hvn, hr1, hr2, hlow, hhigh⟩ := rune_step hvd hlt
  rw [hdec] at H27
  rw [hdec]
  have hol := outQ_len l i
  have hel := enc_len (r : Int)
  refine Vx ?_
  refine Qn (FW_seq (FW_cond_true rfl ?_))
  refine Sk (FW_block (Sr (Vx ?_)))
  refine Am ?_
  refine Nx (Mv ?_)
  refine Mv ?_
  refine FL_val (gives_lookup2 (zv := B 0) (i := (r : Int)) (H27.obj At1) shorts_keys rfl rfl) rfl ?_
  rw [shorts_get, show ((shortM (r : Int)).map B).getD (B 0) = B ((shortM (r : Int)).getD 0) from by cases shortM (r : Int) <;> rfl, Option.isSome_map]
  refine Mv ?_
  refine Vx ?_
  refine Vx ?_
  refine Am ?_
  refine Am ?_
  refine Qn (FW_block (Sr (Mv ?_)))
  refine Am ?_
  refine Qn (Cd rfl (fun hc42 => ?_) (fun hc42 => ?_))
  ·obtain ⟨c, hc⟩ := Option.isSome_iff_exists.1 hc42
   obtain ⟨hr7, hqb, hc7⟩ := short_quote hc
   rw [hc, Option.getD_some]
   refine FW_region (Mv ?_)
   refine Vv (Gives.convI32 (a := (c.toNat : Int)) rfl (by omega)) (Vv (Gives.runeT rfl) ?_)
   rw [encL_eq c.toNat (by omega) (by omega)]
   have hel2 := enc_len (c.toNat : Int)
   refine Vv (Gives.catT rfl rfl (by simp; omega)) ?_
   obtain ⟨F0, hp0, hS0, hput0⟩ := H27.focus At2
   refine FL_call (writeString_ok (by simp) hp0 (by simp; omega)) rfl rfl (fun v' w49 hv => ?_)
   obtain ⟨rfl, hkk, F1, hq2, hs⟩ := hv
   have H49 := hput0 _ F1 _ hkk hq2 hs
   rw [← hqb, ← hlow hr7] at H49
   refine FL_nil (Qblk_normal (Qblk_normal ?_))
   exact Qround_normal (i + n) ⟨rfl, rfl, rfl, rfl, trivial⟩ ⟨⟨hin, hvn⟩, H49⟩ (by omega)
  have hnone : shortM (r : Int) = none := by simpa using hc42
  obtain ⟨hl32, hl128⟩ := long_quote hnone
  refine Sr (Mv ?_)
  refine Vl ?_
  refine Am ?_
  refine Qn (Cp rfl (fun hc55 => ?_) (fun hc55 => ?_))
  ·refine FW_drawS rfl H27 (h := fun hok56 w58 H58 => ?_)
   refine Gm hok56 0 ?_
   refine Gp hok56 1 rfl rfl (fun _ => (Gives.shrN (m := r) (s := 4) rfl rfl (by decide))) (Gm hok56 2 ?_)
   refine Gp hok56 3 rfl rfl (fun _ => (Gives.shrN (m := r) (s := 4) rfl rfl (by decide))) (Gp hok56 4 rfl rfl (fun _ => (Gives.addW (c := ((r / 16 + 1 : Nat) : Int)) rfl rfl (by rw [IntKind.wrap_i32]; omega))) ?_)
   refine Gp hok56 5 rfl rfl (fun _ => (Gives.sliceBothT (l := hexS) (i := r / 16) (m := r / 16 + 1) rfl rfl rfl (by omega) (by show r / 16 + 1 ≤ 16; first | done | omega))) ?_
   rw [hex_piece (by omega)]
   refine Gp hok56 6 rfl rfl (fun _ => (Gives.catT rfl rfl (by first | omega | (simp; done) | (simp; omega)))) ?_
   refine Gm hok56 7 ?_
   refine Gp hok56 8 rfl rfl (fun _ => (Gives.andE (c := ((r % 16 : Nat) : Int)) rfl rfl (and15 (by omega)))) (Gm hok56 9 ?_)
   refine Gp hok56 10 rfl rfl (fun _ => (Gives.andE (c := ((r % 16 : Nat) : Int)) rfl rfl (and15 (by omega)))) (Gp hok56 11 rfl rfl (fun _ => (Gives.addW (c := ((r % 16 + 1 : Nat) : Int)) rfl rfl (by rw [IntKind.wrap_i32]; omega))) ?_)
   refine Gp hok56 12 rfl rfl (fun _ => (Gives.sliceBothT (l := hexS) (i := r % 16) (m := r % 16 + 1) rfl rfl rfl (by omega) (by show r % 16 + 1 ≤ 16; first | done | omega))) ?_
   rw [hex_piece (by omega)]
   refine Gp hok56 13 rfl rfl (fun _ => (Gives.catT rfl rfl (by first | omega | (simp; done) | (simp; omega)))) ?_
   have hq6 := hl32 (by omega)
   obtain ⟨F0, hp0, hS0, hput0⟩ := H58.focus At2
   refine FGcall hok56 14 [] rfl (by kernel_rfl) (writeString_ok (news := quoteB r.toUInt8) (by rw [hq6]; simp) hp0 (by rw [hq6]; simp; omega)) (by rw [hq6]; rfl) (by kernel_rfl) (by kernel_rfl) (fun v' w70 hv => ?_)
   obtain ⟨rfl, hkk, F1, hq2, hs⟩ := hv
   have H70 := hput0 _ F1 _ hkk hq2 hs
   rw [← hlow (by omega)] at H70
   refine ⟨Stab_nil, ?_⟩
   refine FG_end hok56 (by kernel_rfl) ?_
   refine Qblk_normal (Qblk_normal ?_)
   exact Qround_normal (i + n) ⟨rfl, rfl, rfl, rfl, trivial⟩ ⟨⟨hin, hvn⟩, H70⟩ (by omega)
  refine FW_region (Mv ?_)
  obtain ⟨F0, hp0, hS0, hput0⟩ := H27.focus At2
  refine FL_call (writeRune_ok hp0 (by omega) hr1 hr2) rfl rfl (fun v' w74 hv => ?_)
  obtain ⟨hkk, F1, hq2, hs⟩ := hv
  have H74 := hput0 _ F1 _ hkk hq2 hs
  have hout : outQ l i ++ encodeRune (r : Int) = outQ l (i + n) := by
   by_cases h128 : r < 128
   ·rw [hlow h128, hl128 (by omega) h128]
   exact (hhigh (by omega)).symm
  rw [hout] at H74
  refine FL_nil (Qblk_normal (Qblk_normal ?_))
  exact Qround_normal (i + n) ⟨rfl, rfl, rfl, rfl, trivial⟩ ⟨⟨hin, hvn⟩, H74⟩ (by omega)
 have hil : i = l.length := by rw [Mw.size_mk] at hn25; omega
 have hfin : outQ l i ++ [34] = quoteL l := by
  rw [hil]; unfold outQ quoteL; rw [List.take_length]; rfl
 refine Vx ?_
 refine Qn (FW_seq (FW_cond_false rfl ?_))
 refine FW_exit (Qseq_exit (Qround_exit (Qblk_exit (Qseq_normal (Sr ?_)))))
 have hol := outQ_len l i
 obtain ⟨F0, hp0, hS0, hput0⟩ := H24.focus At2
 refine FL_call (writeByte_ok 34 hp0 (by omega)) rfl rfl (fun v' w79 hv => ?_)
 obtain ⟨rfl, hkk, F1, hq2, hs⟩ := hv
 have H79 := hput0 _ F1 _ hkk hq2 hs
 rw [hfin] at H79
 refine Nx ?_
 have hol2 : (quoteL l).length ≤ 6000008 := by rw [← hfin, List.length_append]; simp; omega
 obtain ⟨F0, hp0, hS0, hput0⟩ := H79.focus At2
 refine FL_call (string_ok hp0 (by omega)) rfl rfl (fun v' w81 hv => ?_)
 obtain ⟨rfl, hkk, F1, hq2, hs⟩ := hv
 have H81 := hput0 _ F1 _ hkk hq2 hs
 refine Am ?_
 refine Am ?_
 refine Qn (FW_ret (Qfn_ret (hR := ?_)))
 exact ⟨by rw [hq]; rfl, H81.kept⟩
end
end Go.Proofs.YtolaedhdjcnijaaGreatDoor
namespace Go.Mw
open Go.RowKit
section
variable {P : Program} {r : Option Nat} {n : Nat} {ops : Array Oper} {Q : Post} {rest : List Oper} {σ : St} {w w₀ : World} {S : Nat → Prop} {rs : List HP} {ty : TypeId} {pos : String} {after : Array Edge} {l : List UInt8}
theorem FL_bytesP {d : Nat} {s t e : TypeId} {x : Operand} [hs : IsStr P s] [ht : IsSlice P t e] [he : IsInt P e .u8] (H : Sep w₀ S rs w) (hx : evF σ x = str l := by exact rfl) (hd : Nat.blt d n = true := by exact rfl)
    (h : ∀ b c o w', (∀ w2 : World, w2.heap[b]? = some o → RowAt w2 (some ⟨b, 0, none⟩) l.length 1 (l.map fun u => Value.int .u8 u.toNat)) → l.length ≤ c → Sep w₀ S (obj b o :: rs) w' → FL P r n ops Q rest (upd σ d (.slice (some ⟨b, 0, none⟩) l.length c)) w') :
    FL P r n ops Q ({ dst := some d, op := .convert s t x, type := ty, pos := pos, after := after, guard := none } :: rest) σ w := by
  have hrun := run_bytes_of_string (P := P) w s t e ⟨l.toArray⟩ hs.und ht.und he.und
  rw [size_mk] at hrun
  have hk0 : Kept noB w w.drew := Kept.drew w
  refine FL_val (v := .slice (some ⟨w.heap.size, 0, none⟩) l.length (grownCap w l.length 0 e)) (w' := w.drew.alloc (.cells (bytesRow ⟨l.toArray⟩ (grownCap w l.length 0 e)) e ((bytesRow ⟨l.toArray⟩ (grownCap w l.length 0 e)).size, (bytesRow ⟨l.toArray⟩ (grownCap w l.length 0 e)).size + 1))) (fun _ _ _ _ => ?_) hd (h _ _ _ _ (fun w2 hw2 => ?_) (grownCap_ge w l.length 0 e) ((H.keep hk0).alloc _))
  · simp only [execOp, hx, str, Sem.run_bind, hrun, Result.andThen_ok, Sem.run_pure]
  refine ⟨by simp, fun _ => ⟨_, rfl, fun j u hu => ?_⟩⟩
  rw [Addr.add_lit, Nat.zero_add]
  have hj := (List.getElem?_eq_some_iff.1 hu).1
  have e0 : w2.cell? ⟨w.heap.size, j, none⟩ = (bytesRow ⟨l.toArray⟩ (grownCap w l.length 0 e))[j]? := by
    unfold World.cell?
    have hw3 : w2.heap[w.heap.size]? = _ := hw2
    simp only [hw3]; rfl
  rw [e0]
  unfold bytesRow
  rw [Array.getElem?_append_left (by simpa using hj)]
  simpa using hu
end
end Go.Mw
namespace Go.Proofs.YtolaedhdjcnijaaGreatDoor
open Go Go.Mw Go.Lib
set_option maxRecDepth 4000
structure TabsX (w : World) : Prop where
 utf : TabsU w
 pow : Lib.TabIs Tryz.prog w "internal/strconv.uint64pow10" .u64 Lib.pow10Tab
 syn : ∃ tp p, w.var? Tryz.prog "strconv.ErrSyntax" = some #[.iface tp p]
 ran : ∃ tp p, w.var? Tryz.prog "strconv.ErrRange" = some #[.iface tp p]
 len : ∃ m, w.cell? ⟨0, 0, none⟩ = some (.int .i64 m)
theorem var_keep {P : Program} {w w' : World} {n : String} {cs : Array Value} (hk : Kept noB w w') (h : w.var? P n = some cs) : w'.var? P n = some cs := by
 unfold World.var? at h ⊢
 cases hg : P.globalNamed n with
 | none => rw [hg] at h; cases h
 | some g =>
  rw [hg] at h
  simp only [Option.bind_some] at h ⊢
  have hlt : g < w.heap.size := by
   refine Classical.byContradiction fun hn => ?_
   rw [Array.getElem?_eq_none (by omega)] at h
   cases h
  rw [hk.block g hlt id]
  exact h
theorem cell_keep {w w' : World} {b o : Nat} {v : Value} (hk : Kept noB w w') (h : w.cell? ⟨b, o, none⟩ = some v) : w'.cell? ⟨b, o, none⟩ = some v := by
 have hlt : b < w.heap.size := by
  refine Classical.byContradiction fun hn => ?_
  unfold World.cell? at h
  rw [Array.getElem?_eq_none (by dsimp only; omega)] at h
  cases h
 unfold World.cell? at h ⊢
 rw [hk.block b hlt id]
 exact h
theorem TabsX.keep {w w' : World} (h : TabsX w) (hk : Kept noB w w') : TabsX w' :=
 ⟨h.utf.keep hk, var_keep hk h.pow, h.syn.imp fun _ h => h.imp fun _ h => var_keep hk h, h.ran.imp fun _ h => h.imp fun _ h => var_keep hk h, h.len.imp fun _ h => cell_keep hk h⟩
def byteC (c : UInt8) : List Value := [B c]
instance : EncK byteC 1 := ⟨fun _ => rfl⟩
theorem flat_byteC : ∀ l : List UInt8, l.flatMap byteC = l.map B
 | [] => rfl
 | c :: l => by rw [List.flatMap_cons, flat_byteC l]; rfl
theorem rd_bytes {w : World} {A : Option Addr} {l : List UInt8} (h : RowAt w A l.length 1 (l.map fun u => Value.int .u8 u.toNat)) : Rd w A byteC 1 l := by
 unfold Rd
 rw [flat_byteC]
 exact h
theorem hexS_at {n : Nat} (h : n < 16) : hexS.getD n 0 = hexB n := by
 have key : ∀ i : Fin 16, hexS.getD i.val 0 = hexB i.val := by decide
 exact key ⟨n, h⟩
theorem and15b {x : Nat} (h : x < 256) : bits .and .u8 (x : Int) 15 = ((x % 16 : Nat) : Int) := by
 have key : ∀ i : Fin 256, i.val &&& 15 = i.val % 16 := by decide
 have := u8_and_nat x 15 h (by decide)
 rw [key ⟨x, h⟩] at this
 exact this
section
variable {w : World}
theorem hexE_ok (c : CellM) (hl : c.s.length ≤ 1000000) : Rets Tryz.prog 222 [agg (cellCells c)] w fun v w' => v = str (120 :: hexL c.s) ∧ Kept noB w w' := by
 have H := Sep.start0 w
 refine rets1 Tryz.func222 rfl rfl rfl rfl ?_
 refine Sr (FL_box H (h := fun b1 w2 H2 k1 => ?_))
 refine Am ?_
 refine Nx (FL_alloc H2 (h := fun b3 w5 H5 k4 => ?_))
 replace H5 := Sep.newB H5
 refine Nx ?_
 obtain ⟨F0, hp0, hS0, hput0⟩ := H5.focus At0
 refine FL_call (writeString_ok (news := [120]) (by simp) hp0 (by simp)) rfl rfl (fun v' w7 hv => ?_)
 obtain ⟨rfl, hkk, F1, hq2, hs⟩ := hv
 have H7 := hput0 _ F1 _ hkk hq2 hs
 refine Qn (FW_seq (Sr (Vf ?_)))
 refine Ld H7 ?_
 refine FL_bytesP H7 (h := ?_)
 intro b9 c9 o9 w11 hr9 hc9 H11
 refine Vs ?_
 refine Mv ?_
 refine Qn (FW_block (FW_loop' (fun i : Nat => [(3, selfP b3), (9, .slice (some ⟨b9, 0, none⟩) c.s.length c9), (10, I c.s.length), (11, I i)]) (fun i w' => i ≤ c.s.length ∧ Sep w noB [obj b9 o9, bldH b3 (120 :: hexL (c.s.take i))] w') (fun i _ => c.s.length - i) 0 ⟨rfl, rfl, rfl, rfl, trivial⟩ ⟨Nat.zero_le _, (H11.front1.front1).firsts (l := [_, _])⟩ (fun i τ w15 hI => ?_)))
 obtain ⟨hi, H15⟩ := hI
 try simp only [upds, like, upd_ds, und_ds]
 refine Sr (Vl ?_)
 refine Qn (FW_seq (Cp rfl (fun hc17 => ?_) (fun hc17 => ?_)))
 ·have hlt : i < c.s.length := by omega
  obtain ⟨x, hx⟩ := get_some hlt
  have hsu := hexL_succ hlt
  rw [getD_of hx] at hsu
  have hxl := hexL_length (c.s.take i)
  rw [List.length_take] at hxl
  have hcl := x.toNat_lt
  refine Sk (FW_seq (FW_block (Sr (Vv (Gives.idxR rfl rfl (rd_bytes (hr9 _ (H15.obj At0))) hlt) (Vv (Gives.loadW (i := i) (f := 0) (c := x) rfl (rd_bytes (hr9 _ (H15.obj At0))) hx rfl) ?_)))))
  refine Am ?_
  refine Nx (Mv ?_)
  refine Vv (Gives.shrN (m := x.toNat) (s := 4) rfl rfl (by decide)) (Vv (Gives.idxD (l := hexS) (i := x.toNat / 16) rfl rfl (by show x.toNat / 16 < 16; omega)) ?_)
  rw [hexS_at (by omega)]
  obtain ⟨F0, hp0, hS0, hput0⟩ := H15.focus At1
  refine FL_call (writeByte_ok _ hp0 (by simp; omega)) rfl rfl (fun v' w26 hv => ?_)
  obtain ⟨rfl, hkk, F1, hq2, hs⟩ := hv
  have H26 := hput0 _ F1 _ hkk hq2 hs
  refine Qn (FW_region (Mv ?_))
  refine Vv (Gives.andE (c := ((x.toNat % 16 : Nat) : Int)) rfl rfl (and15b hcl)) (Vv (Gives.idxD (l := hexS) (i := x.toNat % 16) rfl rfl (by show x.toNat % 16 < 16; omega)) ?_)
  rw [hexS_at (by omega)]
  obtain ⟨F0, hp0, hS0, hput0⟩ := H26.focus At1
  refine FL_call (writeByte_ok _ hp0 (by simp; omega)) rfl rfl (fun v' w31 hv => ?_)
  obtain ⟨rfl, hkk, F1, hq2, hs⟩ := hv
  have H31 := hput0 _ F1 _ hkk hq2 hs
  rw [show (120 :: hexL (c.s.take i)) ++ [hexB (x.toNat / 16)] ++ [hexB (x.toNat % 16)] = 120 :: hexL (c.s.take (i + 1)) from by rw [hsu]; simp] at H31
  refine FL_nil (Qblk_normal (Qseq_normal (FW_region (Vv (Gives.addI rfl rfl rfl (by omega)) ?_))))
  refine Mv ?_
  refine FL_nil ?_
  exact Qround_normal (i + 1) ⟨rfl, rfl, rfl, rfl, trivial⟩ ⟨by omega, H31⟩ (by omega)
 have hil : i = c.s.length := by omega
 refine FW_exit (Qseq_exit (Qround_exit (Qblk_exit (Qseq_normal (Sr ?_)))))
 have hxl2 := hexL_length c.s
 rw [hil, List.take_length] at H15
 obtain ⟨F0, hp0, hS0, hput0⟩ := H15.focus At1
 refine FL_call (string_ok hp0 (by simp; omega)) rfl rfl (fun v' w37 hv => ?_)
 obtain ⟨rfl, hkk, F1, hq2, hs⟩ := hv
 have H37 := hput0 _ F1 _ hkk hq2 hs
 refine Am ?_
 refine Qn (FW_ret (Qfn_ret (hR := ?_)))
 exact ⟨rfl, H37.kept⟩
end
end Go.Proofs.YtolaedhdjcnijaaGreatDoor
