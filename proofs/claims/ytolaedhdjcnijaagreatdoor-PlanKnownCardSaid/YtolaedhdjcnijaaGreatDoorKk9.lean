/-
 The program's reader of literals, walked: fail, take, want, digit, half, Next.
-/
import Derived.Test.YtolaedhdjcnijaaGreatDoorKk8
import Derived.Maps.RangeRun
import Derived.Test.YtolaedhdjcnijaaGreatDoorKk2
set_option linter.unusedVariables false
set_option linter.unusedSimpArgs false
namespace Go.Proofs.YtolaedhdjcnijaaGreatDoor
open Go Go.Mw Go.Lib
set_option maxRecDepth 4000
def oU (b : Nat) (l : List UInt8) (at_ : Nat) (e : Int) : HP := blk b [str l, I at_, I e] 235
def gN (e k : Int) : Int := if e = 0 then k else e
def dw (l : List UInt8) (at_ : Nat) (e : Int) : UInt8 × Nat × Int := if e ≠ 0 then (0, at_, e) else if at_ = l.length then (0, at_, 3) else (l.getD at_ 0, at_ + 1, 0)
def iU (l : List UInt8) (at_ : Nat) (e : Int) (c : UInt8) : Nat × Int := ((dw l at_ e).2.1, if (dw l at_ e).1 = c then (dw l at_ e).2.2 else gN (dw l at_ e).2.2 41)
def dN (l : List UInt8) (at_ : Nat) (e : Int) : Nat × Nat × Int :=
 match fG (dw l at_ e).1 with
 | none => (0, (dw l at_ e).2.1, gN (dw l at_ e).2.2 41)
 | some d => (d, (dw l at_ e).2.1, (dw l at_ e).2.2)
def lV (l : List UInt8) (at_ : Nat) (e : Int) (second : Bool) : Nat × Nat × Int :=
 let d0 := dN l at_ e
 let e1 := if second = true ∧ d0.1 ≠ 13 then gN d0.2.2 41 else d0.2.2
 let d1 := dN l d0.2.1 e1
 let n1 := 16 * d0.1 + d1.1
 let e2 := if second ≠ decide (220 ≤ n1 ∧ n1 ≤ 223) then gN d1.2.2 41 else d1.2.2
 let d2 := dN l d1.2.1 e2
 let n2 := 16 * n1 + d2.1
 let d3 := dN l d2.2.1 d2.2.2
 (16 * n2 + d3.1, d3.2.1, d3.2.2)
theorem take_at {l : List UInt8} {at_ : Nat} {e : Int} (h : at_ ≤ l.length) : (dw l at_ e).2.1 ≤ l.length := by
 unfold dw
 split
 ·exact h
 split
 ·exact h
 dsimp only; omega
theorem oJ {l : List UInt8} {at_ : Nat} {e : Int} (h : at_ ≤ l.length) : (dN l at_ e).2.1 ≤ l.length := by
 unfold dN
 split <;> exact take_at h
theorem qz (l : List UInt8) (at_ : Nat) (e : Int) : (dN l at_ e).1 < 16 := by
 unfold dN
 split
 ·exact Nat.zero_lt_succ 15
 rename_i h; exact rY h
theorem Jy {l : List UInt8} {at_ : Nat} {e : Int} {s : Bool} (h : at_ ≤ l.length) : (lV l at_ e s).2.1 ≤ l.length := oJ (oJ (oJ (oJ h)))
theorem zN {l : List UInt8} {at_ : Nat} {e : Int} {c : UInt8} (h : at_ ≤ l.length) : (iU l at_ e c).1 ≤ l.length := take_at h
section
variable {w : World} {l : List UInt8}
theorem l8 {b at_ : Nat} {e : Int} {F : Nat → Prop} (k : Int) (hp : (oU b l at_ e).ok F w) : bF Tryz.prog 202 [bI b, I k] w fun r w' => r = .tuple #[] ∧ Turn F (oU b l at_ (gN e k)) w w' := by
 have H := Sep.iy hp
 unfold oU at H
 refine eU Tryz.func202 rfl rfl rfl rfl ?_
 refine Sr (Mv ?_)
 refine Vv (Gives.nilCheck rfl) (Vf ?_)
 refine Ld H ?_
 refine Ve ?_
 refine Qn (Cp rfl (fun Cr => ?_) (fun Cr => ?_))
 ·have ay : gN e k = k := if_pos Cr
  refine aB (Mv ?_)
  refine Mv ?_
  refine Vv (Gives.nilCheck rfl) (Vf ?_)
  refine bW H (h := fun wa Ha => ?_)
  refine aP (jC (hR := ?_))
  exact ⟨rfl, by rw [ay]; exact Ha.turn⟩
 have ay : gN e k = e := if_neg Cr
 refine aY (jC (hR := ?_))
 exact ⟨rfl, by rw [ay]; exact H.turn⟩
theorem D6 {b at_ : Nat} {e : Int} {F : Nat → Prop} (hp : (oU b l at_ e).ok F w) (hl : l.length ≤ 1000000) (ha : at_ ≤ l.length) : bF Tryz.prog 248 [bI b] w fun r w' => r = B (dw l at_ e).1 ∧ Turn F (oU b l (dw l at_ e).2.1 (dw l at_ e).2.2) w w' := by
 have H := Sep.iy hp
 unfold oU at H
 obtain ⟨res, ay⟩ : ∃ res, res = dw l at_ e := ⟨_, rfl⟩
 rw [← ay]
 unfold dw at ay
 refine dP Tryz.func248 rfl rfl rfl rfl ?_
 refine Sr (Am ?_)
 refine Qn (au (Sr (Mv ?_)))
 refine Vv (Gives.nilCheck rfl) (Vf ?_)
 refine Ld H ?_
 refine Vn ?_
 refine Qn (Cp rfl (fun oW => ?_) (fun oW => ?_))
 ·rw [if_pos oW] at ay
  refine Sr (Am ?_)
  refine Qn (Rs (ak (hR := ?_)))
  exact ⟨by rw [ay]; rfl, by rw [ay]; exact H.turn⟩
 have oW := oW
 rw [if_neg oW] at ay
 refine Sk (au (au (bG rfl H (h := fun Sa wa Ha => ?_))))
 refine Gm Sa 0 ?_
 refine Gp Sa 1 rfl rfl (fun _ => (Gives.nilCheck rfl)) (Gp Sa 2 rfl rfl (fun _ => (Gives.dx rfl)) ?_)
 refine cK Sa 3 Ha (h := ?_)
 refine Gm Sa 4 ?_
 refine Gp Sa 5 rfl rfl (fun _ => (Gives.nilCheck rfl)) (Gp Sa 6 rfl rfl (fun _ => (Gives.dx rfl)) ?_)
 refine cK Sa 7 Ha (h := ?_)
 refine Gp Sa 8 rfl rfl (fun _ => (Gives.VA rfl)) (Gp Sa 9 rfl rfl (fun _ => (Gives.eql rfl rfl)) ?_)
 refine bR Sa (by kernel_rfl) ?_
 refine aj (Cp rfl (fun Ia => ?_) (fun Ia => ?_))
 ·rw [if_pos (by omega)] at ay
  refine Sr (Mv ?_)
  obtain ⟨F0, gu, nk, bJ⟩ := Ha.focus At0
  refine bH (l8 (l := l) 3 gu) rfl rfl (fun v' wb hv => ?_)
  obtain ⟨rfl, dK, F1, hq, hs⟩ := hv
  have Hb := bJ _ F1 _ dK hq hs
  have Xf : e = 0 := Classical.not_not.1 oW
  have O7 : gN e 3 = 3 := if_pos Xf
  rw [O7] at Hb
  refine Nx (Am ?_)
  refine Qn (Rs (ak (hR := ?_)))
  exact ⟨by rw [ay]; rfl, by rw [ay]; exact Hb.turn⟩
 rw [if_neg (by omega)] at ay
 refine Sk (Sr (Mv ?_))
 refine Vv (Gives.nilCheck rfl) (Vf ?_)
 refine Ld Ha ?_
 refine Vv (Gives.bM (c := ((at_ + 1 : Nat) : Int)) rfl rfl (by omega) (by omega)) (Vv (Gives.nilCheck rfl) ?_)
 refine Vf ?_
 refine bW Ha (h := fun wc Hc => ?_)
 refine Qn (au (bG rfl Hc (h := fun Sb wd Hd => ?_)))
 refine Gm Sb 0 ?_
 refine Gp Sb 1 rfl rfl (fun _ => (Gives.nilCheck rfl)) (Gp Sb 2 rfl rfl (fun _ => (Gives.dx rfl)) ?_)
 refine cK Sb 3 Hd (h := ?_)
 refine Gm Sb 4 ?_
 refine Gp Sb 5 rfl rfl (fun _ => (Gives.nilCheck rfl)) (Gp Sb 6 rfl rfl (fun _ => (Gives.dx rfl)) ?_)
 refine cK Sb 7 Hd (h := ?_)
 refine Gp Sb 8 rfl rfl (fun _ => (Gives.yh (c := (at_ : Int)) rfl rfl (by omega) (by omega))) (Gp Sb 9 rfl rfl (fun _ => (Gives.fF rfl rfl (by omega))) ?_)
 refine Gp Sb 10 rfl rfl (fun _ => Gives.assign rfl) (bR Sb (by kernel_rfl) ?_)
 refine aj (aM (ak (hR := ?_)))
 exact ⟨by rw [ay]; rfl, by rw [ay]; have Xf : e = 0 := Classical.not_not.1 oW; rw [Xf] at Hd; exact Hd.turn⟩
theorem D7 {b at_ : Nat} {e : Int} {F : Nat → Prop} (c : UInt8) (hp : (oU b l at_ e).ok F w) (hl : l.length ≤ 1000000) (ha : at_ ≤ l.length) : bF Tryz.prog 201 [bI b, B c] w fun r w' => r = .tuple #[] ∧ Turn F (oU b l (iU l at_ e c).1 (iU l at_ e c).2) w w' := by
  have H := Sep.iy hp
  refine eU Tryz.func201 rfl rfl rfl rfl ?_
  refine Sr (Mv ?_)
  obtain ⟨F0, gu, nk, bJ⟩ := H.focus At0
  refine bH (D6 (l := l) gu hl ha) rfl rfl (fun v' w3 hv => ?_)
  obtain ⟨rfl, dK, F1, hq, hs⟩ := hv
  have H3 := bJ _ F1 _ dK hq hs
  refine Am ?_
  refine Nx (Mv ?_)
  refine Mv ?_
  refine Vn ?_
  refine Qn (Cp rfl (fun xL => ?_) (fun xL => ?_))
  · have ay : iU l at_ e c = ((dw l at_ e).2.1, gN (dw l at_ e).2.2 41) := by
      unfold iU
      rw [if_neg (fun h => xL (by rw [h]))]
    refine aB (Mv ?_)
    obtain ⟨F0, gu, nk, bJ⟩ := H3.focus At0
    refine bH (l8 (l := l) 41 gu) rfl rfl (fun v' wa hv => ?_)
    obtain ⟨rfl, dK, F1, hq, hs⟩ := hv
    have Ha := bJ _ F1 _ dK hq hs
    refine aP (jC (hR := ?_))
    exact ⟨rfl, by rw [ay]; exact Ha.turn⟩
  have ay : iU l at_ e c = ((dw l at_ e).2.1, (dw l at_ e).2.2) := by
    unfold iU
    rw [if_pos (UInt8.toNat_inj.1 (by have h := xL; omega))]
  refine aY (jC (hR := ?_))
  exact ⟨rfl, by rw [ay]; exact H3.turn⟩
theorem Cj (l : List UInt8) : d9 l = if (Lib.decodeGo ⟨l.toArray⟩).1 = 65533 ∧ (Lib.decodeGo ⟨l.toArray⟩).2 < 2 then none else some (Lib.decodeGo ⟨l.toArray⟩) := by
 by_cases h0 : l = []
 ·subst h0; rfl
 have hd : Lib.decodeGo ⟨l.toArray⟩ = decodeL l := by
  unfold Lib.decodeGo
  rw [if_neg (by rw [Mw.size_mk]; exact fun e => h0 (List.eq_nil_of_length_eq_zero e))]
  rfl
 rw [hd]
 cases hn : d9 l with
 | none =>
  unfold d9 at hn
  split at hn
  ·rename_i h
   rcases h with h | ⟨h1, h2⟩
   ·exact absurd h h0
   rw [if_pos ⟨h1, by omega⟩]
  cases hn
 | some p =>
  obtain ⟨r, n⟩ := p
  obtain ⟨e1, h1, _, _⟩ := pU hn
  rw [e1, if_neg]
  rintro ⟨h2, h3⟩
  dsimp only at h2 h3
  unfold d9 at hn
  rw [if_pos (.inr ⟨by rw [e1]; exact h2, by rw [e1]; dsimp only; omega⟩)] at hn
  cases hn
theorem Ui (l : List UInt8) (hT : mo w) : bF Tryz.prog 250 [str l] w fun v w' => v = .tuple #[I32 (gL l).1, I (gL l).2, .bool (d9 l).isSome] ∧ Kept noB w w' := by
 have H := Sep.bB w
 refine dP Tryz.func250 rfl rfl rfl rfl ?_
 refine Sr (Am ?_)
 refine Am ?_
 refine Am ?_
 refine Nx (Mv ?_)
 refine aN H (lU (Tryz.utf8_DecodeRuneInString ⟨l.toArray⟩ _ (hT.keep H.kept))) (h := fun w6 H6 k5 => ?_)
 refine Mv ?_
 refine Vx ?_
 refine Vx ?_
 refine Am ?_
 refine Am ?_
 refine Qn (au (Sr (Mv ?_)))
 refine Ve ?_
 refine Mv ?_
 refine aG (t := 12) rfl (fun Sa => ?_) (fun Sa => ?_)
 ·have hr := Sa
  refine On (Mv ?_)
  refine On (Vl ?_)
  refine Pt ?_
  refine Qn (Cp rfl (fun Ia => ?_) (fun Ia => ?_))
  ·have ay := Cj l
   rw [if_pos ⟨by omega, by omega⟩] at ay
   have Mh : gL l = (0, 0) := by unfold gL; rw [ay]; rfl
   refine Sr (Am ?_)
   refine Am ?_
   refine Am ?_
   refine Qn (Rs (ak (hR := ?_)))
   exact ⟨by rw [Mh, ay]; rfl, H6.kept⟩
  have ay := Cj l
  rw [if_neg (fun h => by omega)] at ay
  refine Sk (Sr (Mv ?_))
  refine Mv ?_
  refine Am ?_
  refine Am ?_
  refine Am ?_
  refine Qn (aM (ak (hR := ?_)))
  have ay := Cj l
  rw [if_neg (by omega)] at ay
  have Mh : gL l = Lib.decodeGo ⟨l.toArray⟩ := by unfold gL; rw [ay]; rfl
  exact ⟨by rw [Mh, ay]; rfl, H6.kept⟩
 have hr := Sa
 refine Of (Of (Pf ?_))
 refine Qn (bg rfl ?_)
 refine Sk (Sr (Mv ?_))
 refine Mv ?_
 refine Am ?_
 refine Am ?_
 refine Am ?_
 refine Qn (aM (ak (hR := ?_)))
 have ay := Cj l
 rw [if_neg (by omega)] at ay
 have Mh : gL l = Lib.decodeGo ⟨l.toArray⟩ := by unfold gL; rw [ay]; rfl
 exact ⟨by rw [Mh, ay]; rfl, H6.kept⟩
end
theorem aa7 (c : UInt8) : bits .or .u8 (c.toNat : Int) 32 = ((c ||| 32).toNat : Int) := by
 have key : ∀ i : Fin 256, bits .or .u8 (i.val : Int) 32 = ((i.val.toUInt8 ||| 32).toNat : Int) := by decide +kernel
 have := key ⟨c.toNat, c.toNat_lt⟩
 have e : (c.toNat).toUInt8 = c := by simp
 simpa only [e] using this
theorem QS (c : UInt8) : fG c = if Lib.indexByte mE (c ||| 32) < 0 ∨ c.toNat < 48 ∨ (57 < c.toNat ∧ c.toNat < 65) then none else some (Lib.indexByte mE (c ||| 32)).toNat := by
 have key : ∀ i : Fin 256, fG i.val.toUInt8 = if Lib.indexByte mE (i.val.toUInt8 ||| 32) < 0 ∨ i.val.toUInt8.toNat < 48 ∨ (57 < i.val.toUInt8.toNat ∧ i.val.toUInt8.toNat < 65) then none else some (Lib.indexByte mE (i.val.toUInt8 ||| 32)).toNat := by decide +kernel
 have := key ⟨c.toNat, c.toNat_lt⟩
 have e : (c.toNat).toUInt8 = c := by simp
 simpa only [e] using this
section
variable {w : World} {l : List UInt8}
theorem xI {b at_ : Nat} {e : Int} {F : Nat → Prop} (hp : (oU b l at_ e).ok F w) (hl : l.length ≤ 1000000) (ha : at_ ≤ l.length) : bF Tryz.prog 263 [bI b] w fun r w' => r = I (dN l at_ e).1 ∧ Turn F (oU b l (dN l at_ e).2.1 (dN l at_ e).2.2) w w' := by
 have H := Sep.iy hp
 obtain ⟨c, hc⟩ : ∃ c, c = (dw l at_ e).1 := ⟨_, rfl⟩
 have EO := c.toNat_lt
 have Og := QS c
 refine dP Tryz.func263 rfl rfl rfl rfl ?_
 refine Sr (Am ?_)
 refine Nx (Mv ?_)
 obtain ⟨F0, gu, nk, bJ⟩ := H.focus At0
 refine bH (D6 (l := l) gu hl ha) rfl rfl (fun v' w4 hv => ?_)
 obtain ⟨rfl, dK, F1, hq, hs⟩ := hv
 have H4 := bJ _ F1 _ dK hq hs
 rw [← hc]
 refine Am ?_
 refine Nx (Mv ?_)
 refine Vv (Gives.orE rfl rfl (aa7 c)) (dY (uh mE (c ||| 32)) (h := ?_))
 refine Am ?_
 refine Qn (au (Sr (Mv ?_)))
 refine Vl ?_
 refine Mv ?_
 refine aG (t := 12) rfl (fun Sa => ?_) (fun Sa => ?_)
 ·refine Of (Of (Pt ?_))
  refine Mv ?_
  refine Of (Of (Of (Ou (Ou (Of (Pt ?_))))))
  refine Qn (aQ rfl ?_)
  refine Sr (Mv ?_)
  have ay : dN l at_ e = (0, (dw l at_ e).2.1, gN (dw l at_ e).2.2 41) := by
   unfold dN
   rw [← hc, Og, if_pos (by omega)]
  obtain ⟨F0, gu, nk, bJ⟩ := H4.focus At0
  refine bH (l8 (l := l) 41 gu) rfl rfl (fun v' wa hv => ?_)
  obtain ⟨rfl, dK, F1, hq, hs⟩ := hv
  have Ha := bJ _ F1 _ dK hq hs
  refine Nx (Am ?_)
  refine Qn (Rs (ak (hR := ?_)))
  exact ⟨by rw [ay]; rfl, by rw [ay]; exact Ha.turn⟩
 refine On (Mv ?_)
 refine On (Vl ?_)
 refine Pf ?_
 refine Mv ?_
 refine aG (t := 16) rfl (fun Sb => ?_) (fun Sb => ?_)
 ·refine Of (Of (Of (Ou (Ou (Of (Pt ?_))))))
  refine Qn (aQ rfl ?_)
  refine Sr (Mv ?_)
  have ay : dN l at_ e = (0, (dw l at_ e).2.1, gN (dw l at_ e).2.2 41) := by
   unfold dN
   rw [← hc, Og, if_pos (by omega)]
  obtain ⟨F0, gu, nk, bJ⟩ := H4.focus At0
  refine bH (l8 (l := l) 41 gu) rfl rfl (fun v' wb hv => ?_)
  obtain ⟨rfl, dK, F1, hq, hs⟩ := hv
  have Hb := bJ _ F1 _ dK hq hs
  refine Nx (Am ?_)
  refine Qn (Rs (ak (hR := ?_)))
  exact ⟨by rw [ay]; rfl, by rw [ay]; exact Hb.turn⟩
 refine On (Mv ?_)
 refine On (Vg ?_)
 refine On (Mv ?_)
 refine aG (t := 19) rfl (fun Sc => ?_) (fun Sc => ?_)
 ·refine On (Mv ?_)
  refine On (Vl ?_)
  refine On (Pt ?_)
  refine Pf ?_
  refine Qn (Cp rfl (fun Ia => ?_) (fun Ia => ?_))
  ·refine Sr (Mv ?_)
   have ay : dN l at_ e = (0, (dw l at_ e).2.1, gN (dw l at_ e).2.2 41) := by
    unfold dN
    rw [← hc, Og, if_pos (by omega)]
   obtain ⟨F0, gu, nk, bJ⟩ := H4.focus At0
   refine bH (l8 (l := l) 41 gu) rfl rfl (fun v' wc hv => ?_)
   obtain ⟨rfl, dK, F1, hq, hs⟩ := hv
   have Hc := bJ _ F1 _ dK hq hs
   refine Nx (Am ?_)
   refine Qn (Rs (ak (hR := ?_)))
   exact ⟨by rw [ay]; rfl, by rw [ay]; exact Hc.turn⟩
  refine Sk (Sr (Mv ?_))
  refine Am ?_
  refine Qn (aM (ak (hR := ?_)))
  have ay : dN l at_ e = ((Lib.indexByte mE (c ||| 32)).toNat, (dw l at_ e).2.1, (dw l at_ e).2.2) := by
   unfold dN
   rw [← hc, Og, if_neg (by omega)]
  have hn : (((Lib.indexByte mE (c ||| 32)).toNat : Nat) : Int) = Lib.indexByte mE (c ||| 32) := Int.toNat_of_nonneg (by omega)
  exact ⟨by rw [ay]; show _ = I (((Lib.indexByte mE (c ||| 32)).toNat : Nat) : Int); rw [hn]; rfl, by rw [ay]; exact H4.turn⟩
 refine Of (Of (On (Pf ?_)))
 refine Pf ?_
 refine Qn (bg rfl ?_)
 refine Sk (Sr (Mv ?_))
 refine Am ?_
 refine Qn (aM (ak (hR := ?_)))
 have ay : dN l at_ e = ((Lib.indexByte mE (c ||| 32)).toNat, (dw l at_ e).2.1, (dw l at_ e).2.2) := by
  unfold dN
  rw [← hc, Og, if_neg (by omega)]
 have hn : (((Lib.indexByte mE (c ||| 32)).toNat : Nat) : Int) = Lib.indexByte mE (c ||| 32) := Int.toNat_of_nonneg (by omega)
 exact ⟨by rw [ay]; show _ = I (((Lib.indexByte mE (c ||| 32)).toNat : Nat) : Int); rw [hn]; rfl, by rw [ay]; exact H4.turn⟩
theorem Jz {a b : Nat} (ha : a < 268435456) (hb : b < 16) : bits .or .i64 ((16 * a : Nat) : Int) (b : Int) = ((16 * a + b : Nat) : Int) := by
 have key : 16 * a ||| b = 16 * a + b := (Nat.two_pow_add_eq_or_of_lt (i := 4) hb a).symm
 show IntKind.i64.wrap ((BitVec.ofInt 64 ((16 * a : Nat) : Int) ||| BitVec.ofInt 64 (b : Int)).toNat : Int) = _
 rw [BitVec.toNat_or, ofInt_u64 _ (by omega), ofInt_u64 _ (by omega), key, IntKind.wrap_i64]
 omega
theorem JA {a : Nat} (ha : a < 268435456) : IntKind.i64.wrap ((a : Int) * 2 ^ (Min.min (4 : Int).toNat IntKind.i64.bits)) = ((16 * a : Nat) : Int) := by
 show IntKind.i64.wrap ((a : Int) * 16) = _
 rw [IntKind.wrap_i64]; omega
theorem Lv {b at_ : Nat} {e : Int} {F : Nat → Prop} (second : Bool) (hp : (oU b l at_ e).ok F w) (hl : l.length ≤ 1000000) (ha : at_ ≤ l.length) : bF Tryz.prog 249 [bI b, .bool second] w fun r w' => r = I32 (lV l at_ e second).1 ∧ Turn F (oU b l (lV l at_ e second).2.1 (lV l at_ e second).2.2) w w' := by
 have H := Sep.iy hp
 obtain ⟨d0, Yp⟩ : ∃ d, d = dN l at_ e := ⟨_, rfl⟩
 have h0l := qz l at_ e
 have h0a := oJ (e := e) ha
 rw [← Yp] at h0l h0a
 obtain ⟨e1, UW⟩ : ∃ e1, e1 = if second = true ∧ d0.1 ≠ 13 then gN d0.2.2 41 else d0.2.2 := ⟨_, rfl⟩
 obtain ⟨d1, YV⟩ : ∃ d, d = dN l d0.2.1 e1 := ⟨_, rfl⟩
 have h1l := qz l d0.2.1 e1
 have h1a := oJ (e := e1) h0a
 rw [← YV] at h1l h1a
 obtain ⟨n1, JN⟩ : ∃ n, n = 16 * d0.1 + d1.1 := ⟨_, rfl⟩
 obtain ⟨e2, Ym⟩ : ∃ e2, e2 = if second ≠ decide (220 ≤ n1 ∧ n1 ≤ 223) then gN d1.2.2 41 else d1.2.2 := ⟨_, rfl⟩
 obtain ⟨d2, Cm⟩ : ∃ d, d = dN l d1.2.1 e2 := ⟨_, rfl⟩
 have h2l := qz l d1.2.1 e2
 have h2a := oJ (e := e2) h1a
 rw [← Cm] at h2l h2a
 obtain ⟨d3, hd3⟩ : ∃ d, d = dN l d2.2.1 d2.2.2 := ⟨_, rfl⟩
 have h3l := qz l d2.2.1 d2.2.2
 have h3a := oJ (e := d2.2.2) h2a
 rw [← hd3] at h3l h3a
 have ay : lV l at_ e second = (16 * (16 * n1 + d2.1) + d3.1, d3.2.1, d3.2.2) := by
  rw [hd3, Cm, Ym, JN, YV, UW, Yp]; rfl
 refine eU Tryz.func249 rfl rfl rfl rfl ?_
 refine Sr (Am ?_)
 refine Nx (Mv ?_)
 obtain ⟨F0, gu, nk, bJ⟩ := H.focus At0
 refine bH (xI (l := l) gu hl ha) rfl rfl (fun v' w4 hv => ?_)
 obtain ⟨rfl, dK, F1, hq, hs⟩ := hv
 have H4 := bJ _ F1 _ dK hq hs
 rw [← Yp]
 rw [← Yp] at H4
 refine Am ?_
 refine Qn (fO (fun _ : Unit => [(0, bI b), (1, .bool second), (5, I d0.1)]) (fun _ w' => Sep w F [oU b l d0.2.1 e1] w') ?_ ?_)
 ·refine Sr (Mv ?_)
  refine Mv ?_
  refine dh (t := 9) rfl (fun EN => ?_) (fun EN => ?_)
  ·have acf : second = true := EN
   refine On (Mv ?_)
   refine On (Vn ?_)
   refine Pt ?_
   refine Qn (Cp rfl (fun Ia => ?_) (fun Ia => ?_))
   ·have ES : gN d0.2.2 41 = e1 := by rw [UW, if_pos ⟨acf, fun h => Ia (by rw [h]; rfl)⟩]
    refine aB (Mv ?_)
    obtain ⟨F0, gu, nk, bJ⟩ := H4.focus At0
    refine bH (l8 (l := l) 41 gu) rfl rfl (fun v' wa hv => ?_)
    obtain ⟨rfl, dK, F1, hq, hs⟩ := hv
    have Ha := bJ _ F1 _ dK hq hs
    refine aP ?_
    rw [ES] at Ha; exact aS () ⟨rfl, rfl, rfl, trivial⟩ Ha
   have ES : d0.2.2 = e1 := by rw [UW, if_neg (fun h => h.2 (by have h2 := Ia; omega))]
   refine aY ?_
   rw [ES] at H4; exact aS () ⟨rfl, rfl, rfl, trivial⟩ H4
  have ES : d0.2.2 = e1 := by rw [UW, if_neg (fun h => by have h2 := EN; rw [h.1] at h2; cases h2)]
  refine Of (Of (Pf ?_))
  refine Qn (bg rfl ?_)
  refine aY ?_
  rw [ES] at H4; exact aS () ⟨rfl, rfl, rfl, trivial⟩ H4
 intro _ τ wb Hb
 simp only [cZ, like, bC, bZ]
 refine Sr (Mv ?_)
 refine Vv (Gives.Ug rfl rfl (by omega) (JA (by omega))) (Mv ?_)
 obtain ⟨F0, gu, nk, bJ⟩ := Hb.focus At0
 refine bH (xI (l := l) gu hl h0a) rfl rfl (fun v' wc hv => ?_)
 obtain ⟨rfl, dK, F1, hq, hs⟩ := hv
 have Hc := bJ _ F1 _ dK hq hs
 rw [← YV]
 rw [← YV] at Hc
 refine Vv (Gives.orE rfl rfl (Jz (by omega) h1l)) ?_
 rw [← JN]
 refine Am ?_
 refine Qn (fO (fun _ : Unit => [(0, bI b), (1, .bool second), (5, I n1)]) (fun _ w' => Sep w F [oU b l d1.2.1 e2] w') ?_ ?_)
 ·refine Sr (Mv ?_)
  refine Mv ?_
  refine Vv (Gives.geq rfl rfl) (Mv ?_)
  refine aG (t := 23) rfl (fun Sa => ?_) (fun Sa => ?_)
  ·have hb : decide (220 ≤ n1 ∧ n1 ≤ 223) = decide ((n1 : Int) ≤ 223) := decide_eq_decide.2 (by have h := Sa; omega)
   refine On (Mv ?_)
   refine On (Vv (Gives.leq rfl rfl) (Pt ?_))
   refine Vv (Gives.GJ rfl rfl) (Qn ?_)
   refine Cd rfl (fun Ib => ?_) (fun Ib => ?_)
   ·have ES : gN d1.2.2 41 = e2 := by rw [Ym, if_pos (fun h => by have h2 := Ib; rw [← hb, h] at h2; simp at h2)]
    refine aB (Mv ?_)
    obtain ⟨F0, gu, nk, bJ⟩ := Hc.focus At0
    refine bH (l8 (l := l) 41 gu) rfl rfl (fun v' wd hv => ?_)
    obtain ⟨rfl, dK, F1, hq, hs⟩ := hv
    have Hd := bJ _ F1 _ dK hq hs
    refine aP ?_
    rw [ES] at Hd; exact aS () ⟨rfl, rfl, rfl, trivial⟩ Hd
   have ES : d1.2.2 = e2 := by rw [Ym, if_neg (fun h => h (by have h2 := Ib; rw [hb]; revert h2; first | (cases second <;> simp; done) | (generalize decide ((n1 : Int) ≤ 223) = D; cases second <;> cases D <;> simp)))]
   refine aY ?_
   rw [ES] at Hc; exact aS () ⟨rfl, rfl, rfl, trivial⟩ Hc
  have hb : decide (220 ≤ n1 ∧ n1 ≤ 223) = false := decide_eq_false (by have h := Sa; omega)
  refine Of (Of (Pf ?_))
  refine Vv (Gives.GJ rfl rfl) (Qn ?_)
  refine Cd rfl (fun Ic => ?_) (fun Ic => ?_)
  ·have ES : gN d1.2.2 41 = e2 := by rw [Ym, if_pos (fun h => by have h2 := Ic; rw [← hb, h] at h2; simp at h2)]
   refine aB (Mv ?_)
   obtain ⟨F0, gu, nk, bJ⟩ := Hc.focus At0
   refine bH (l8 (l := l) 41 gu) rfl rfl (fun v' we hv => ?_)
   obtain ⟨rfl, dK, F1, hq, hs⟩ := hv
   have He := bJ _ F1 _ dK hq hs
   refine aP ?_
   rw [ES] at He; exact aS () ⟨rfl, rfl, rfl, trivial⟩ He
  have ES : d1.2.2 = e2 := by rw [Ym, if_neg (fun h => h (by have h2 := Ic; rw [hb]; revert h2; first | (cases second <;> simp; done) | (generalize decide ((n1 : Int) ≤ 223) = D; cases second <;> cases D <;> simp)))]
  refine aY ?_
  rw [ES] at Hc; exact aS () ⟨rfl, rfl, rfl, trivial⟩ Hc
 intro _ τ wf Hf
 simp only [cZ, like, bC]
 refine Sr (Mv ?_)
 refine Vv (Gives.Ug rfl rfl (by omega) (JA (by omega))) (Mv ?_)
 obtain ⟨F0, gu, nk, bJ⟩ := Hf.focus At0
 refine bH (xI (l := l) gu hl h1a) rfl rfl (fun v' wg hv => ?_)
 obtain ⟨rfl, dK, F1, hq, hs⟩ := hv
 have Hg := bJ _ F1 _ dK hq hs
 rw [← Cm]
 rw [← Cm] at Hg
 refine Vv (Gives.orE rfl rfl (Jz (by omega) h2l)) (Am ?_)
 refine Nx (Mv ?_)
 refine Vv (Gives.Ug rfl rfl (by omega) (JA (by omega))) (Mv ?_)
 obtain ⟨F0, gu, nk, bJ⟩ := Hg.focus At0
 refine bH (xI (l := l) gu hl h2a) rfl rfl (fun v' wh hv => ?_)
 obtain ⟨rfl, dK, F1, hq, hs⟩ := hv
 have Hh := bJ _ F1 _ dK hq hs
 rw [← hd3]
 rw [← hd3] at Hh
 refine Vv (Gives.orE rfl rfl (Jz (by omega) h3l)) (Vv (Gives.xq rfl (by omega)) ?_)
 refine Am ?_
 refine Qn (aM (ak (hR := ?_)))
 exact ⟨by rw [ay]; rfl, by rw [ay]; exact Hh.turn⟩
end
theorem ZO {x : Nat} (h : x < 256) : bits .and .u8 (x : Int) 7 = ((x % 8 : Nat) : Int) := by
 have key : ∀ i : Fin 256, i.val &&& 7 = i.val % 8 := by decide
 have := u8_and_nat x 7 h (by decide)
 rw [key ⟨x, h⟩] at this
 exact this
section
variable {w : World} {l : List UInt8}
theorem V9 (l : List UInt8) (hl : l.length ≤ 1000000) (hT : mo w) : bF Tryz.prog 251 [str l] w fun v w' => (∃ b, v = .bool b) ∧ Kept noB w w' := by
 have H := Sep.bB w
 refine dP Tryz.func251 rfl rfl rfl rfl ?_
 refine Sr (Am ?_)
 refine Nx (Mv ?_)
 refine Vt ?_
 refine Am ?_
 refine Qn (au (Sr (Mv ?_)))
 refine Ve ?_
 refine Qn (Cp rfl (fun oW => ?_) (fun oW => ?_))
 ·refine Sr (Am ?_)
  refine Qn (Rs (ak (hR := ?_)))
  exact ⟨⟨_, rfl⟩, H.kept⟩
 refine Sk (Sr (Mv ?_))
 refine Vv (Gives.fF (i := 0) rfl rfl (by omega)) ?_
 have Mc := (l.getD 0 0).toNat_lt
 refine Vv (Gives.yu (i := (l.getD 0 0).toNat) rfl rfl (by omega)) ?_
 rw [Addr.add_lit]
 refine Rx (by rw [Nat.zero_add, Nat.mul_one]; exact (hT.keep H.kept).1 _ Mc) rfl rfl ?_
 refine Am ?_
 refine Qn (au (Sr (Mv ?_)))
 refine Mv ?_
 obtain ⟨v, hv⟩ : ∃ v, v = Lib.firstT (l.getD 0 0).toNat := ⟨_, rfl⟩
 have hv1 : v < 256 := by have := Lib.firstT_cases (l.getD 0 0).toNat; omega
 rw [← hv]
 refine Vv (Gives.yN rfl rfl (ZO hv1)) (Vv (Gives.jd (c := ((v % 8 : Nat) : Int)) rfl (by rw [IntKind.wrap_i64]; omega)) ?_)
 refine Vv (Gives.geq rfl rfl) (Qn ?_)
 refine Cp rfl (fun Ia => ?_) (fun Ia => ?_)
 ·refine Sr (Am ?_)
  refine Qn (Rs (ak (hR := ?_)))
  exact ⟨⟨_, rfl⟩, H.kept⟩
 refine Sk (Sr (Mv ?_))
 refine Vv (Gives.yO (m := v) (s := 4) rfl rfl (by decide)) ?_
 obtain ⟨q, hq⟩ : ∃ q, q = v / 2 ^ 4 := ⟨_, rfl⟩
 have WL : q < 16 := by omega
 rw [← hq]
 refine Vv (Gives.yu (i := q) rfl rfl (by omega)) ?_
 rw [Addr.add_lit, Nat.zero_add]
 refine Pm (us := [.int .u8 (Lib.accLo q), .int .u8 (Lib.accHi q)]) (fun j u hj => by
  obtain ⟨h1, h2⟩ := (hT.keep H.kept).2 q WL
  rw [Addr.add_lit]
  match j, hj with
  | 0, hj => injection hj with hj; subst hj; rw [Nat.add_zero, Nat.mul_comm, Nat.zero_add]; exact h1
  | 1, hj => injection hj with hj; subst hj; rw [Nat.mul_comm, Nat.zero_add]; exact h2) rfl rfl rfl ?_
 refine bD H (h := fun b27 wa Ha ka => ?_)
 refine aD Ha (h := fun wb Hb => ?_)
 refine Qn (au (au (bG rfl Hb (h := fun Sa wc Hc => ?_))))
 refine Gm Sa 0 ?_
 refine Gp Sa 1 rfl rfl (fun _ => (Gives.gtr rfl rfl)) (Gm Sa 2 ?_)
 refine lC (t := 25) rfl (fun Sb => ?_) (fun Sb => ?_)
 ·refine Gm Sa 3 ?_
  refine Gp Sa 4 rfl rfl (fun _ => (Gives.fF (i := 1) rfl rfl (by omega))) (Gp Sa 5 rfl rfl (fun _ => (Gives.dx rfl)) ?_)
  refine cK Sa 6 Hc (h := ?_)
  refine Gp Sa 7 rfl rfl (fun _ => (Gives.lss rfl rfl)) (Gm Sa 8 ?_)
  refine lC (t := 31) rfl (fun Sc => ?_) (fun Sc => ?_)
  ·refine dL Sa 9 rfl rfl (by kernel_rfl) ?_
   refine dL Sa 10 rfl rfl (by kernel_rfl) ?_
   refine dL Sa 11 rfl rfl (by kernel_rfl) ?_
   refine dL Sa 12 rfl rfl (by kernel_rfl) ?_
   refine dL Sa 13 rfl rfl (by kernel_rfl) ?_
   refine Gp Sa 14 rfl rfl (fun _ => Gives.nC rfl rfl) (Gp Sa 15 rfl rfl (fun _ => Gives.nC rfl rfl) ?_)
   refine bR Sa (by kernel_rfl) ?_
   refine aj (aQ rfl ?_)
   refine Sr (Am ?_)
   refine Qn (Rs (ak (hR := ?_)))
   exact ⟨⟨_, rfl⟩, Hc.kept⟩
  refine Gp Sa 9 rfl rfl (fun _ => (Gives.dx rfl)) (cK Sa 10 Hc (h := ?_))
  refine Gm Sa 11 ?_
  refine Gp Sa 12 rfl rfl (fun _ => (Gives.fF (i := 1) rfl rfl (by omega))) (Gp Sa 13 rfl rfl (fun _ => (Gives.lss rfl rfl)) ?_)
  refine Gp Sa 14 rfl rfl (fun _ => Gives.nP rfl rfl) (Gp Sa 15 rfl rfl (fun _ => Gives.nC rfl rfl) ?_)
  refine bR Sa (by kernel_rfl) ?_
  refine aj (Cp rfl (fun Ib => ?_) (fun Ib => ?_))
  ·refine Sr (Am ?_)
   refine Qn (Rs (ak (hR := ?_)))
   exact ⟨⟨_, rfl⟩, Hc.kept⟩
  refine Sr (Mv ?_)
  refine Vg ?_
  refine Mv ?_
  refine aG (t := 41) rfl (fun Sd => ?_) (fun Sd => ?_)
  ·refine On (Mv ?_)
   refine On (Vv (Gives.fF (i := 2) rfl rfl (by omega)) (On ?_))
   refine Vl ?_
   refine On (Mv ?_)
   refine aG (t := 45) rfl (fun Se => ?_) (fun Se => ?_)
   ·refine Of (Of (Of (On (Pt ?_))))
    refine Pt ?_
    refine Qn (aQ rfl ?_)
    refine Sr (Am ?_)
    refine Qn (Rs (ak (hR := ?_)))
    exact ⟨⟨_, rfl⟩, Hc.kept⟩
   refine On (Mv ?_)
   refine On (Vv (Gives.fF (i := 2) rfl rfl (by omega)) (On ?_))
   refine Vl ?_
   refine On (Pf ?_)
   refine Pt ?_
   refine Qn (Cp rfl (fun Ic => ?_) (fun Ic => ?_))
   ·refine Sr (Am ?_)
    refine Qn (Rs (ak (hR := ?_)))
    exact ⟨⟨_, rfl⟩, Hc.kept⟩
   refine Sk (Sr (Am ?_))
   refine Qn (aM (ak (hR := ?_)))
   exact ⟨⟨_, rfl⟩, Hc.kept⟩
  refine Of (Of (Of (Of (Ou (Ou (Ou (Of (Pf ?_))))))))
  refine Qn (bg rfl ?_)
  refine Sk (Sr (Am ?_))
  refine Qn (aM (ak (hR := ?_)))
  exact ⟨⟨_, rfl⟩, Hc.kept⟩
 refine dL Sa 3 rfl rfl (by kernel_rfl) ?_
 refine dL Sa 4 rfl rfl (by kernel_rfl) ?_
 refine dL Sa 5 rfl rfl (by kernel_rfl) ?_
 refine dL Sa 6 rfl rfl (by kernel_rfl) ?_
 refine dL Sa 7 rfl rfl (by kernel_rfl) ?_
 refine dL Sa 8 rfl rfl (by kernel_rfl) ?_
 refine dL Sa 9 rfl rfl (by kernel_rfl) ?_
 refine dL Sa 10 rfl rfl (by kernel_rfl) ?_
 refine dL Sa 11 rfl rfl (by kernel_rfl) ?_
 refine dL Sa 12 rfl rfl (by kernel_rfl) ?_
 refine dL Sa 13 rfl rfl (by kernel_rfl) ?_
 refine dL Sa 14 rfl rfl (by kernel_rfl) ?_
 refine Gp Sa 15 rfl rfl (fun _ => Gives.nP rfl rfl) (bR Sa (by kernel_rfl) ?_)
 refine aj (bg rfl ?_)
 refine Sr (Mv ?_)
 refine Vg ?_
 refine Mv ?_
 refine aG (t := 41) rfl (fun Sf => ?_) (fun Sf => ?_)
 ·refine On (Mv ?_)
  refine On (Vv (Gives.fF (i := 2) rfl rfl (by omega)) (On ?_))
  refine Vl ?_
  refine On (Mv ?_)
  refine aG (t := 45) rfl (fun Sg => ?_) (fun Sg => ?_)
  ·refine Of (Of (Of (On (Pt ?_))))
   refine Pt ?_
   refine Qn (aQ rfl ?_)
   refine Sr (Am ?_)
   refine Qn (Rs (ak (hR := ?_)))
   exact ⟨⟨_, rfl⟩, Hc.kept⟩
  refine On (Mv ?_)
  refine On (Vv (Gives.fF (i := 2) rfl rfl (by omega)) (On ?_))
  refine Vl ?_
  refine On (Pf ?_)
  refine Pt ?_
  refine Qn (Cp rfl (fun Id => ?_) (fun Id => ?_))
  ·refine Sr (Am ?_)
   refine Qn (Rs (ak (hR := ?_)))
   exact ⟨⟨_, rfl⟩, Hc.kept⟩
  refine Sk (Sr (Am ?_))
  refine Qn (aM (ak (hR := ?_)))
  exact ⟨⟨_, rfl⟩, Hc.kept⟩
 refine Of (Of (Of (Of (Ou (Ou (Ou (Of (Pf ?_))))))))
 refine Qn (bg rfl ?_)
 refine Sk (Sr (Am ?_))
 refine Qn (aM (ak (hR := ?_)))
 exact ⟨⟨_, rfl⟩, Hc.kept⟩
theorem yP {w w' : World} {F : Nat → Prop} {b o : Nat} {v : Value} (hk : Kept F w w') (hF : ¬ F b) (h : w.cell? ⟨b, o, none⟩ = some v) : w'.cell? ⟨b, o, none⟩ = some v := by
 have bU : b < w.heap.size := by
  refine Classical.byContradiction fun hn => ?_
  unfold World.cell? at h
  rw [Array.getElem?_eq_none (by dsimp only; omega)] at h
  cases h
 unfold World.cell? at h ⊢
 rw [hk.block b bU hF]
 exact h
theorem mo.ZP {w w' : World} {F : Nat → Prop} (h : mo w) (hk : Kept F w w') (h1 : ¬ F 4) (h2 : ¬ F 5) : mo w' :=
 ⟨fun c hc => yP hk h1 (h.1 c hc), fun i hi => ⟨yP hk h2 (h.2 i hi).1, yP hk h2 (h.2 i hi).2⟩⟩
theorem Lx {w w' : World} {F : Nat → Prop} {b at_ : Nat} {e : Int} {l : List UInt8} (hp : (oU b l at_ e).ok F w) (h : mo w) (hk : Kept F w w') : mo w' := by
 have hc : w.cell? ⟨b, 0, none⟩ = some (str l) := by
  unfold World.cell?
  have := hp.2
  simp only [this]
  rfl
 refine h.ZP hk (fun hF => ?_) (fun hF => ?_)
 ·have hb := (hp.1 _).1 hF
  have h0 := h.1 0 (by decide)
  rw [← hb] at hc
  have h1 := hc.symm.trans h0
  cases h1
 have hb := (hp.1 _).1 hF
 have h0 := (h.2 0 (by decide)).1
 rw [← hb] at hc
 have h1 := hc.symm.trans h0
 cases h1
def lH (l : List UInt8) (at_ : Nat) : List UInt8 × Nat × Bool :=
 if (l.getD at_ 0).toNat < 32 then ([], at_, false) else match d9 (l.drop at_) with
  | some (_, n) => ((l.drop at_).take n, at_ + n, true)
  | none => ([], at_, false)
theorem QT {b at_ : Nat} {F : Nat → Prop} (hp : (oU b l at_ 0).ok F w) (hl : l.length ≤ 1000000) (ha : at_ < l.length) (hT : mo w) : bF Tryz.prog 204 [bI b] w fun r w' => ∃ x : Int, r = str (lH l at_).1 ∧ ((lH l at_).2.2 = true ↔ x = 0) ∧ Turn F (oU b l (lH l at_).2.1 x) w w' := by
 have H := Sep.iy hp
 unfold oU at H
 obtain ⟨res, ay⟩ : ∃ res, res = lH l at_ := ⟨_, rfl⟩
 rw [← ay]
 unfold lH at ay
 have hdl : (l.drop at_).length = l.length - at_ := List.length_drop
 have X8 : (l.drop at_).getD 0 0 = l.getD at_ 0 := by simp [List.getD_eq_getElem?_getD]
 refine dP Tryz.func204 rfl rfl rfl rfl ?_
 refine Sr (Am ?_)
 refine Qn (au (bG rfl H (h := fun iZ w4 H4 => ?_)))
 refine Gm iZ 0 ?_
 refine Gp iZ 1 rfl rfl (fun _ => (Gives.nilCheck rfl)) (Gp iZ 2 rfl rfl (fun _ => (Gives.dx rfl)) ?_)
 refine cK iZ 3 H4 (h := ?_)
 refine Gm iZ 4 ?_
 refine Gp iZ 5 rfl rfl (fun _ => (Gives.nilCheck rfl)) (Gp iZ 6 rfl rfl (fun _ => (Gives.dx rfl)) ?_)
 refine cK iZ 7 H4 (h := ?_)
 refine Gp iZ 8 rfl rfl (fun _ => (Gives.dW (l := l) (i := at_) rfl rfl (by omega))) (Gp iZ 9 rfl rfl (fun _ => Gives.assign rfl) ?_)
 refine bR iZ (by kernel_rfl) ?_
 refine aj (Sr (Mv ?_))
 refine aN H4 (Ui (l.drop at_) (Lx hp hT H4.kept)) (h := fun wa Ha ka => ?_)
 refine Mv ?_
 refine Vx ?_
 refine Vx ?_
 refine Vx ?_
 refine Am ?_
 refine Am ?_
 refine Am ?_
 refine Qn (au (aF (Sr (Mv ?_))))
 refine Vv (Gives.fF (i := 0) rfl rfl (by omega)) ?_
 rw [X8]
 refine Vl ?_
 refine Am ?_
 refine Qn (Cp rfl (fun Ia => ?_) (fun Ia => ?_))
 ·rw [if_pos (by omega)] at ay
  refine Sr (Mv ?_)
  obtain ⟨F0, gu, nk, bJ⟩ := Ha.focus At0
  refine bH (l8 (l := l) 41 gu) rfl rfl (fun v' wb hv => ?_)
  obtain ⟨rfl, dK, F1, hq, hs⟩ := hv
  have Hb := bJ _ F1 _ dK hq hs
  refine Nx (Am ?_)
  refine Qn (Rb (ak (hR := ?_)))
  exact ⟨41, by rw [ay]; rfl, by rw [ay]; simp, by rw [ay]; exact Hb.turn⟩
 rw [if_neg (by omega)] at ay
 refine Sr (Mv ?_)
 refine Am ?_
 refine Qn (Cd rfl (fun Ib => ?_) (fun Ib => ?_))
 ·obtain ⟨⟨r, n⟩, hn⟩ := Option.isSome_iff_exists.1 Ib
  obtain ⟨_, JN, hn2, _⟩ := pU hn
  have X6 : gL (l.drop at_) = (r, n) := by unfold gL; rw [hn]; rfl
  rw [hn] at ay
  rw [hdl] at hn2
  rw [X6]
  refine Sr (Mv ?_)
  refine Vv (Gives.nilCheck rfl) (Vf ?_)
  refine Ld Ha ?_
  refine Mv ?_
  refine Vv (Gives.bM (c := ((at_ + n : Nat) : Int)) rfl rfl (by show (at_ : Int) + (n : Int) = _; omega) (by omega)) (Vv (Gives.nilCheck rfl) ?_)
  refine Vf ?_
  refine bW Ha (h := fun wc Hc => ?_)
  refine Nx (Mv ?_)
  refine Mv ?_
  refine Vv (Gives.lq (l := l.drop at_) (i := n) rfl rfl (by omega)) (Am ?_)
  refine Qn (Rb (ak (hR := ?_)))
  exact ⟨0, by rw [ay]; rfl, by rw [ay]; simp, by rw [ay]; exact Hc.turn⟩
 have hn : d9 (l.drop at_) = none := by
  cases h : d9 (l.drop at_) with
  | none => rfl
  | some y => rw [h] at Ib; cases Ib
 rw [hn] at ay
 refine Sr (Mv ?_)
 refine bH (V9 (l.drop at_) (by omega) (Lx hp hT Ha.kept)) rfl rfl (fun v' wd hv => ?_)
 obtain ⟨⟨bf, rfl⟩, dK⟩ := hv
 have Hd := Ha.keep dK
 refine Vv (Gives.not rfl) (Am ?_)
 refine Qn (Cd rfl (fun Ic => ?_) (fun Ic => ?_))
 ·refine Sr (Mv ?_)
  obtain ⟨F0, gu, nk, bJ⟩ := Hd.focus At0
  refine bH (l8 (l := l) 3 gu) rfl rfl (fun v' we hv => ?_)
  obtain ⟨rfl, dK, F1, hq, hs⟩ := hv
  have He := bJ _ F1 _ dK hq hs
  refine Nx (Am ?_)
  refine Qn (Rb (ak (hR := ?_)))
  exact ⟨3, by rw [ay]; rfl, by rw [ay]; simp, by rw [ay]; exact He.turn⟩
 refine aY (aA (aj (Sr (Mv ?_))))
 obtain ⟨F0, gu, nk, bJ⟩ := Hd.focus At0
 refine bH (l8 (l := l) 40 gu) rfl rfl (fun v' wf hv => ?_)
 obtain ⟨rfl, dK, F1, hq, hs⟩ := hv
 have Hf := bJ _ F1 _ dK hq hs
 refine Nx (Am ?_)
 refine Qn (aM (ak (hR := ?_)))
 exact ⟨40, by rw [ay]; rfl, by rw [ay]; simp, by rw [ay]; exact Hf.turn⟩
end
end Go.Proofs.YtolaedhdjcnijaaGreatDoor
namespace Go.Mw
open Go.RowKit
section
variable {P : Program} {r : Option Nat} {n : Nat} {ops : Array Oper} {Q : Post} {rest : List Oper} {σ : St} {w w₀ : World} {S : Nat → Prop} {rs : List HP} {put : HP → List HP} {ty : TypeId} {pos : String} {after : Array Edge}
theorem QU {d : Nat} {x : Operand} {T k e : TypeId} [ht : IsMap P T k e] {bm : Nat} {es : Array MapEntry} {clock : Nat} (H : Sep w₀ S rs w) (hb : w.heap[bm]? = some (.map es clock)) (hx : evF σ x = .map (some bm) := by exact rfl) (hd : Nat.blt d n = true := by exact rfl)
    (h : ∀ b w', Sep w₀ S (obj b (.mapIter (some bm) clock #[] clock) :: rs) w' → FL P r n ops Q rest (upd σ d (.pointer (some ⟨b, 0, none⟩))) w') : FL P r n ops Q ({ dst := some d, op := .range T x, type := ty, pos := pos, after := after, guard := none } :: rest) σ w :=
  eu (fun _ _ _ _ => by
    have := run_range_map (P := P) w T k e bm es clock ht.und hb
    simp only [execOp, hx, Sem.run_bind, this, Result.andThen_ok, Sem.run_pure]) hd (h _ _ (H.alloc _))
theorem Uj {d : Nat} {x : Operand} {b bm since c0 : Nat} {seen : Array Nat} {es : Array MapEntry} {clock : Nat} (H : Sep w₀ S rs w) (hat : At rs (obj b (.mapIter (some bm) since seen c0)) put) (hb : w.heap[bm]? = some (.map es clock)) (hold : ∀ x ∈ es.toList, x.born < since) (hsc : since ≤ c0)
    (h1 : ∀ en, en ∈ (leftOf es seen).toList → ∀ w', Sep w₀ S (put (obj b (.mapIter (some bm) since (seen.push en.born) clock))) w' → FL P r n ops Q rest (upd σ d (.tuple #[.bool true, en.key, en.val])) w')
    (h2 : (leftOf es seen).size = 0 → FL P r n ops Q rest (upd σ d (.tuple #[.bool false])) w) (hx : evF σ x = .pointer (some ⟨b, 0, none⟩) := by exact rfl) (hd : Nat.blt d n = true := by exact rfl) :
    FL P r n ops Q ({ dst := some d, op := .next x false, type := ty, pos := pos, after := after, guard := none } :: rest) σ w := by
  have hr := H.obj hat
  rcases run_next_at (P := P) w ty b bm since c0 seen es clock hr hb hold hsc with ⟨h0, iP⟩ | ⟨en, Em, w1, Uw, iP⟩
  · exact eu (fun _ _ _ _ => by simp only [execOp, hx, Sem.run_bind, iP, Result.andThen_ok, Sem.run_pure]) hd (h2 h0)
  have WI : Kept noB w w1 := by
    rcases Uw with rfl | rfl
    · exact Kept.refl _ _
    exact Kept.drew w
  have H1 := H.keep WI
  have bU := lX (H1.obj hat)
  refine eu (w' := Go.ChangeMaps.setBlock w1 b (.mapIter (some bm) since (seen.push en.born) clock)) (fun _ _ _ _ => by simp only [execOp, hx, Sem.run_bind, iP, Result.andThen_ok, Sem.run_pure]) hd (h1 en Em _ (H1.setObj hat ⟨rfl, rfl, rfl, by simp [Go.ChangeMaps.setBlock], fun j hj fM => ?_⟩ (by simp [Go.ChangeMaps.setBlock, bU])))
  simp only [Go.ChangeMaps.setBlock, Array.getElem?_setIfInBounds]; rw [if_neg (fun e => fM e.symm)]
theorem Gives.XY {ρ : Operand → Value} {x : Operand} {b bm since : Nat} {seen : Array Nat} {es : Array MapEntry} {clock : Nat} {en : MapEntry} (hx : ρ x = .pointer (some ⟨b, 0, none⟩))
    (hr : w.heap[b]? = some (.mapIter (some bm) since (seen.push en.born) clock)) (hb : w.heap[bm]? = some (.map es clock)) (he : en ∈ es.toList) (hn : (es.toList.map (·.born)).Nodup) : Gives P ρ (.entry x) ty w (.tuple #[en.key, en.val]) w := fun _ _ _ _ => by
  have := run_entry_at (P := P) w b bm since seen es clock en hr hb he hn
  simp only [execOp, hx, Sem.run_bind, this, Result.andThen_ok, Sem.run_pure]
end
end Go.Mw
namespace Go.Proofs.YtolaedhdjcnijaaGreatDoor
open Go Go.Mw Go.Lib
set_option maxRecDepth 4000
def BH (c : UInt8) : Option UInt8 := if c = 34 then some 34 else if c = 92 then some 92 else if c = 98 then some 8 else if c = 102 then some 12 else if c = 110 then some 10 else if c = 114 then some 13 else if c = 116 then some 9 else none
theorem LA : ∀ x ∈ fU.toList, x.born < 7 := by
 intro x hx
 simp only [fU, List.mem_cons, List.not_mem_nil, or_false] at hx
 rcases hx with rfl | rfl | rfl | rfl | rfl | rfl | rfl <;> exact (by decide)
theorem zO : (fU.toList.map (·.born)).Nodup := by
 show [0, 1, 2, 3, 4, 5, 6].Nodup
 decide
theorem NV {x : MapEntry} (hx : x ∈ fU.toList) : ∃ k v : UInt8, x.key = .int .i32 (k.toNat : Int) ∧ x.val = B v ∧ k.toNat < 128 ∧ ∀ c : UInt8, c = v → BH c = some k := by
 simp only [fU, List.mem_cons, List.not_mem_nil, or_false] at hx
 rcases hx with rfl | rfl | rfl | rfl | rfl | rfl | rfl
 ·exact ⟨34, 34, rfl, rfl, by decide, fun c h => by subst h; rfl⟩
 ·exact ⟨92, 92, rfl, rfl, by decide, fun c h => by subst h; rfl⟩
 ·exact ⟨8, 98, rfl, rfl, by decide, fun c h => by subst h; rfl⟩
 ·exact ⟨12, 102, rfl, rfl, by decide, fun c h => by subst h; rfl⟩
 ·exact ⟨10, 110, rfl, rfl, by decide, fun c h => by subst h; rfl⟩
 ·exact ⟨13, 114, rfl, rfl, by decide, fun c h => by subst h; rfl⟩
 exact ⟨9, 116, rfl, rfl, by decide, fun c h => by subst h; rfl⟩
theorem QV {c : UInt8} (h : ∀ x ∈ fU.toList, x.val ≠ B c) : BH c = none := by
 have g : ∀ (k : Int) (v : UInt8) (b : Nat), tZ k (v.toNat : Int) b ∈ fU.toList → c ≠ v := fun k v b hm e => h _ hm (by rw [e]; rfl)
 unfold BH
 rw [if_neg (g 34 34 0 (by simp [fU])), if_neg (g 92 92 1 (by simp [fU])), if_neg (g 8 98 2 (by simp [fU])), if_neg (g 12 102 3 (by simp [fU])), if_neg (g 10 110 4 (by simp [fU])), if_neg (g 13 114 5 (by simp [fU])), if_neg (g 9 116 6 (by simp [fU]))]
theorem ZQ {a b : UInt8} (h : B a = B b) : a = b := by
 injection h with _ h
 exact UInt8.toNat_inj.1 (by omega)
def QW (l : List UInt8) (n : Nat) (g : Nat × Nat × Int) : List UInt8 × Nat × Int := (if g.2.2 ≠ 0 then [] else BP (65536 + 1024 * ((n : Int) - 55296) + g.1 - 56320), g.2.1, g.2.2)
def LB (l : List UInt8) (n : Nat) (a : Nat × Int) : List UInt8 × Nat × Int := QW l n (lV l (iU l a.1 a.2 117).1 (iU l a.1 a.2 117).2 true)
def NW (l : List UInt8) (h : Nat × Nat × Int) : List UInt8 × Nat × Int :=
 if 55296 ≤ h.1 ∧ h.1 < 56320 then LB l h.1 (iU l h.2.1 h.2.2 92) else (if h.2.2 ≠ 0 then [] else BP (h.1 : Int), h.2.1, h.2.2)
def Gs (l : List UInt8) (t : UInt8 × Nat × Int) : List UInt8 × Nat × Int :=
 if t.1 = 47 then ([47], t.2.1, t.2.2)
 else match BH t.1 with
  | some k => ([k], t.2.1, t.2.2)
  | none => NW l (lV l t.2.1 (if t.1 = 117 then t.2.2 else gN t.2.2 41) false)
def uI (l : List UInt8) (at_ : Nat) (e : Int) : List UInt8 × Nat × Int := Gs l (dw l at_ e)
theorem O5 (l : List UInt8) (at_ : Nat) (e : Int) (s : Bool) : (lV l at_ e s).1 < 65536 := by
 have h0 := qz l at_ e
 have h1 := qz l (dN l at_ e).2.1 (if s = true ∧ (dN l at_ e).1 ≠ 13 then gN (dN l at_ e).2.2 41 else (dN l at_ e).2.2)
 unfold lV
 dsimp only
 have h2 : ∀ a b, (dN l a b).1 < 16 := fun a b => qz l a b
 generalize hg : dN l at_ e = d0 at *
 have a1 := h2 d0.2.1 (if s = true ∧ d0.1 ≠ 13 then gN d0.2.2 41 else d0.2.2)
 generalize dN l d0.2.1 (if s = true ∧ d0.1 ≠ 13 then gN d0.2.2 41 else d0.2.2) = d1 at *
 have a2 := h2 d1.2.1 (if s ≠ decide (220 ≤ 16 * d0.1 + d1.1 ∧ 16 * d0.1 + d1.1 ≤ 223) then gN d1.2.2 41 else d1.2.2)
 generalize dN l d1.2.1 (if s ≠ decide (220 ≤ 16 * d0.1 + d1.1 ∧ 16 * d0.1 + d1.1 ≤ 223) then gN d1.2.2 41 else d1.2.2) = d2 at *
 have a3 := h2 d2.2.1 d2.2.2
 generalize dN l d2.2.1 d2.2.2 = d3 at *
 omega
section
variable {w : World} {l : List UInt8}
theorem NY {b at_ : Nat} {e : Int} {F : Nat → Prop} (hp : (oU b l at_ e).ok F w) (hl : l.length ≤ 1000000) (ha : at_ ≤ l.length) : bF Tryz.prog 203 [bI b] w fun r w' => r = str (uI l at_ e).1 ∧ Turn F (oU b l (uI l at_ e).2.1 (uI l at_ e).2.2) w w' := by
 have H := Sep.iy hp
 obtain ⟨res, ay⟩ : ∃ res, res = uI l at_ e := ⟨_, rfl⟩
 rw [← ay]
 unfold uI Gs NW LB QW at ay
 have hta := take_at (e := e) ha
 obtain ⟨t, ht⟩ : ∃ t, t = dw l at_ e := ⟨_, rfl⟩
 rw [← ht] at hta ay
 have zV := t.1.toNat_lt
 refine dP Tryz.func203 rfl rfl rfl rfl ?_
 refine Sr (Am ?_)
 refine Nx (Mv ?_)
 obtain ⟨F0, gu, nk, bJ⟩ := H.focus At0
 refine bH (D6 (l := l) gu hl ha) rfl rfl (fun v' w4 hv => ?_)
 obtain ⟨rfl, dK, F1, hq, hs⟩ := hv
 have H4 := bJ _ F1 _ dK hq hs
 rw [← ht]
 rw [← ht] at H4
 refine Am ?_
 refine Qn (au (Sr (Mv ?_)))
 refine Ve ?_
 refine Qn (Cp rfl (fun xL => ?_) (fun xL => ?_))
 ·have YA : t.1 = 47 := UInt8.toNat_inj.1 (by have h := xL; show t.1.toNat = 47; omega)
  rw [if_pos YA] at ay
  refine Sr (Am ?_)
  refine Qn (Rs (ak (hR := ?_)))
  exact ⟨by rw [ay]; rfl, by rw [ay]; exact H4.turn⟩
 rw [if_neg (fun h => by rw [h] at xL; exact xL rfl)] at ay
 refine Sk (au (Sr (bH (Ll) rfl rfl (fun v' wa hv => ?_))))
 obtain ⟨m, rfl, _, dK, F1, uo, gV⟩ := hv
 have Ha := H4.new dK uo (fun b hb => (gV b hb).resolve_left id)
 refine QU Ha (Ha.obj At0) (h := fun k wb Hb => ?_)
 refine Qn (aF (bA (fun _ : Array Nat × Nat => [(0, bI b), (3, B t.1), (12, .pointer (some ⟨k, 0, none⟩))]) (fun x w' => (7 ≤ x.2 ∧ ∀ y ∈ fU.toList, x.1.contains y.born = true → y.val ≠ B t.1) ∧ Sep w F [obj k (.mapIter (some m) 7 x.1 x.2), obj m (.map fU 7), oU b l t.2.1 t.2.2] w') (fun x _ => (leftOf fU x.1).size) (#[], 7) ⟨rfl, rfl, rfl, trivial⟩ ⟨⟨Nat.le_refl _, fun y _ hy => by simp at hy⟩, Hb⟩ (fun x τ wc hI => ?_)))
 obtain ⟨seen, c0⟩ := x
 obtain ⟨⟨Rn, UM⟩, Hc⟩ := hI
 dsimp only at Rn UM Hc
 try simp only [cZ, like, bC, bZ]
 refine Sr (Uj Hc At0 (Hc.obj At1) LA Rn (h1 := fun en WM wd Hd => ?_) (h2 := fun WM => ?_))
 ·obtain ⟨qC, hns⟩ := mem_left WM
  obtain ⟨kk, vv, xR, hva, adb, hbk⟩ := NV qC
  have ach := left_shrinks fU seen en WM
  refine Vx ?_
  refine Qn (au (aQ rfl ?_))
  refine Sk (aF (Sr (Vv (Gives.XY rfl (Hd.obj At0) (Hd.obj At1) qC zO) ?_)))
  rw [xR, hva]
  refine Vx ?_
  refine Vx ?_
  refine Am ?_
  refine Am ?_
  refine Nx (Mv ?_)
  refine Mv ?_
  refine Ve ?_
  refine Qn (Cp rfl (fun Ia => ?_) (fun Ia => ?_))
  ·have hvt : vv = t.1 := UInt8.toNat_inj.1 (by have h := Ia; omega)
   rw [hbk t.1 hvt.symm] at ay
   dsimp only at ay
   refine Sr (Mv ?_)
   refine Vv (Gives.Tg rfl) ?_
   rw [Ju kk.toNat (by omega) (by omega), show encodeRune (kk.toNat : Int) = [kk] from by unfold encodeRune; rw [encodeRuneZ_one (by omega) (by omega)]; simp]
   refine Am ?_
   refine Qn (aM (aH (aR (aH (aL (ak (hR := ?_)))))))
   exact ⟨by rw [ay]; rfl, by rw [ay]; exact (Hd.iK).firsts (l := [_]).turn⟩
  have hvt : vv ≠ t.1 := fun h => Ia (by rw [h])
  refine aY (aA ?_)
  exact aC (seen.push en.born, 7) ⟨rfl, rfl, rfl, trivial⟩ ⟨⟨Nat.le_refl _, fun y hy hyc => by
  rw [contains_push] at hyc
  cases Rh : seen.contains y.born with
  | true => exact UM y hy Rh
  | false =>
   rw [Rh, Bool.false_or, beq_iff_eq] at hyc
   have := born_inj zO hy qC hyc
   rw [this, hva]
   exact fun h => hvt (ZQ h)⟩, Hd⟩ ach
 have lu := all_seen fU seen WM
 have hbn := QV (fun x hx => UM x hx (lu x hx))
 rw [hbn] at ay
 dsimp only at ay
 obtain ⟨e1, UW⟩ : ∃ e1, e1 = if t.1 = 117 then t.2.2 else gN t.2.2 41 := ⟨_, rfl⟩
 rw [← UW] at ay
 have hhl := O5 l t.2.1 e1 false
 have hha := Jy (e := e1) (s := false) hta
 obtain ⟨h, hh⟩ : ∃ h, h = lV l t.2.1 e1 false := ⟨_, rfl⟩
 rw [← hh] at ay hhl hha
 refine Vx ?_
 refine Qn (au (bg rfl ?_))
 refine bq (aT (aO (aV (aj (fO (fun _ : Unit => [(0, bI b)]) (fun _ w' => Sep w F [oU b l t.2.1 e1] w') ?_ ?_)))))
 ·refine Sr (Mv ?_)
  refine Vn ?_
  refine Qn (Cp rfl (fun Ib => ?_) (fun Ib => ?_))
  ·have ES : gN t.2.2 41 = e1 := by rw [UW, if_neg (fun h => Ib (by rw [h]; rfl))]
   refine aB (Mv ?_)
   obtain ⟨F0, gu, nk, bJ⟩ := Hc.focus At2
   refine bH (l8 (l := l) 41 gu) rfl rfl (fun v' we hv => ?_)
   obtain ⟨rfl, dK, F1, hq, hs⟩ := hv
   have He := bJ _ F1 _ dK hq hs
   refine aP ?_
   rw [ES] at He; exact aS () ⟨rfl, trivial⟩ ((He.iK).firsts (l := [_]))
  have ES : t.2.2 = e1 := by rw [UW, if_pos (UInt8.toNat_inj.1 (by have h := Ib; show t.1.toNat = 117; omega))]
  refine aY ?_
  rw [ES] at Hc; exact aS () ⟨rfl, trivial⟩ ((Hc.iK).firsts (l := [_]))
 intro _ τ wf Hf
 simp only [cZ, like, bC]
 refine Sr (Mv ?_)
 obtain ⟨F0, gu, nk, bJ⟩ := Hf.focus At0
 refine bH (Lv (l := l) false gu hl hta) rfl rfl (fun v' wg hv => ?_)
 obtain ⟨rfl, dK, F1, hq, hs⟩ := hv
 have Hg := bJ _ F1 _ dK hq hs
 rw [← hh]
 rw [← hh] at Hg
 refine Am ?_
 refine Qn (fO (fun z : Int × Nat × Int => [(0, bI b), (6, I32 z.1)]) (fun z w' => res = (if z.2.2 ≠ 0 then [] else BP z.1, z.2.1, z.2.2) ∧ Sep w F [oU b l z.2.1 z.2.2] w') ?_ ?_)
 ·refine Sr (Mv ?_)
  refine Vv (Gives.geq rfl rfl) (Mv ?_)
  refine aG (t := 31) rfl (fun Sa => ?_) (fun Sa => ?_)
  ·have LU := Sa
   refine On (Mv ?_)
   refine On (Vl ?_)
   refine Pt ?_
   refine Qn (Cp rfl (fun Ic => ?_) (fun Ic => ?_))
   ·have Oh : 55296 ≤ h.1 ∧ h.1 < 56320 := by have h2 := Ic; omega
    rw [if_pos Oh] at ay
    have hwa := zN (c := 92) (e := h.2.2) hha
    obtain ⟨a, haa⟩ : ∃ a, a = iU l h.2.1 h.2.2 92 := ⟨_, rfl⟩
    rw [← haa] at ay hwa
    have hwb := zN (c := 117) (e := a.2) hwa
    obtain ⟨d, hdd⟩ : ∃ d, d = iU l a.1 a.2 117 := ⟨_, rfl⟩
    rw [← hdd] at ay hwb
    have Yb := O5 l d.1 d.2 true
    obtain ⟨g, hgg⟩ : ∃ g, g = lV l d.1 d.2 true := ⟨_, rfl⟩
    rw [← hgg] at ay Yb
    refine Sr (Mv ?_)
    obtain ⟨F0, gu, nk, bJ⟩ := Hg.focus At0
    refine bH (D7 (l := l) 92 gu hl hha) rfl rfl (fun v' wh hv => ?_)
    obtain ⟨rfl, dK, F1, hq, hs⟩ := hv
    have Hh := bJ _ F1 _ dK hq hs
    rw [← haa] at Hh
    refine Nx (Mv ?_)
    obtain ⟨F0, gu, nk, bJ⟩ := Hh.focus At0
    refine bH (D7 (l := l) 117 gu hl hwa) rfl rfl (fun v' wi hv => ?_)
    obtain ⟨rfl, dK, F1, hq, hs⟩ := hv
    have Hi := bJ _ F1 _ dK hq hs
    rw [← hdd] at Hi
    refine Qn (aB (Mv ?_))
    refine Vv (Gives.Qo (c := (h.1 : Int) - 55296) rfl rfl (by rw [IntKind.wrap_i32]; omega)) ?_
    refine Vv (Gives.Ug (c := 1024 * ((h.1 : Int) - 55296)) rfl rfl (by omega) (by show IntKind.i32.wrap (((h.1 : Int) - 55296) * 1024) = _; rw [IntKind.wrap_i32]; omega)) (Vv (Gives.Du (c := 65536 + 1024 * ((h.1 : Int) - 55296)) rfl rfl (by rw [IntKind.wrap_i32]; omega)) ?_)
    refine Mv ?_
    obtain ⟨F0, gu, nk, bJ⟩ := Hi.focus At0
    refine bH (Lv (l := l) true gu hl hwb) rfl rfl (fun v' wj hv => ?_)
    obtain ⟨rfl, dK, F1, hq, hs⟩ := hv
    have Hj := bJ _ F1 _ dK hq hs
    rw [← hgg]
    rw [← hgg] at Hj
    refine Vv (Gives.Du (c := 65536 + 1024 * ((h.1 : Int) - 55296) + g.1) rfl rfl (by rw [IntKind.wrap_i32]; omega)) ?_
    refine Vv (Gives.Qo (c := 65536 + 1024 * ((h.1 : Int) - 55296) + g.1 - 56320) rfl rfl (by rw [IntKind.wrap_i32]; omega)) ?_
    refine Am ?_
    refine aP ?_
    exact aS (65536 + 1024 * ((h.1 : Int) - 55296) + g.1 - 56320, g.2.1, g.2.2) ⟨rfl, rfl, trivial⟩ ⟨ay, Hj⟩
   have iY : ¬ (55296 ≤ h.1 ∧ h.1 < 56320) := by have h2 := Ic; omega
   rw [if_neg iY] at ay
   refine aY ?_
   exact aS ((h.1 : Int), h.2.1, h.2.2) ⟨rfl, rfl, trivial⟩ ⟨ay, Hg⟩
  have iY : ¬ (55296 ≤ h.1 ∧ h.1 < 56320) := by have h2 := Sa; omega
  rw [if_neg iY] at ay
  refine Of (Of (Pf ?_))
  refine Qn (bg rfl ?_)
  refine aY ?_
  exact aS ((h.1 : Int), h.2.1, h.2.2) ⟨rfl, rfl, trivial⟩ ⟨ay, Hg⟩
 rintro ⟨n2, a2, e2⟩ τ wk ⟨WK, Hk⟩
 dsimp only at WK Hk
 simp only [cZ, like, bC]
 refine au (Sr (Mv ?_))
 refine Vv (Gives.nilCheck rfl) (Vf ?_)
 refine Ld Hk ?_
 refine Vn ?_
 refine Qn (Cp rfl (fun Id => ?_) (fun Id => ?_))
 ·rw [if_pos Id] at WK
  refine Sr (Am ?_)
  refine Qn (Rs (ak (hR := ?_)))
  exact ⟨by rw [WK]; rfl, by rw [WK]; exact Hk.turn⟩
 rw [if_neg Id] at WK
 refine Sk (Sr (Mv ?_))
 refine Vv (Gives.Tg rfl) (Am ?_)
 refine Qn (aM (ak (hR := ?_)))
 exact ⟨by rw [WK]; rfl, by rw [WK]; exact Hk.turn⟩
end
end Go.Proofs.YtolaedhdjcnijaaGreatDoor
namespace Go.Mw
open Go.RowKit
section
variable {P : Program} {r : Option Nat} {n : Nat} {ops : Array Oper} {Q : Post} {rest : List Oper} {σ : St} {w w₀ : World} {S : Nat → Prop} {rs : List HP} {put : HP → List HP} {ty : TypeId} {pos : String} {after : Array Edge}
theorem LC {d : Nat} {x y : Operand} {t u e : TypeId} [hs : dA P t e] [hu : lM P u] [hc : Cells P e 1 1] [hz : Zero P e (.int .u8 0)]
    (H : Sep w₀ S rs w) (hat : At rs (gU e (.slice none 0 0) []) put) (hx : evF σ x = .slice none 0 0 := by exact rfl) (hy : evF σ y = str [] := by exact rfl) (hd : Nat.blt d n = true := by exact rfl)
    (h : ∀ w', Sep w₀ S (put (gU e (.slice none 0 0) [])) w' → FL P r n ops Q rest (upd σ d (.slice none 0 0)) w') :
    FL P r n ops Q ({ dst := some d, op := .call { callee := .builtin .append, args := #[x, y], argTypes := #[t, u] }, type := ty, pos := pos, after := after, guard := none } :: rest) σ w := by
  obtain ⟨F, hp, _, _⟩ := H.focus hat
  obtain ⟨i, hi, qB⟩ := Option.map_eq_some_iff.1 hc.size
  simp only [Prod.mk.injEq] at qB
  have vN : i.zero = some (.int .u8 0) := by
    have := hz.run w
    simp [zeroValue, typeInfo, hi] at this
    cases hq : i.zero with
    | none => simp [hq] at this
    | some u => simp [hq] at this; rw [this]
  obtain ⟨v', w', iP, h1, h2, h3⟩ := Lib.run_append_own_string (P := P) w 0 t u ty e i hs.und hu.und hi vN qB.1 qB.2 (.slice none 0 0) 0 [] hp.1 ⟨#[]⟩ (by decide) (by decide) (Nat.zero_le _)
  have hv := h3.2 ⟨rfl, rfl⟩
  subst hv
  refine eu (v := .slice none 0 0) (w' := w') (fun _ _ _ _ => ?_) hd (h w' (H.y7 hat h2 h1 (.inl rfl)))
  have hrun' : (Builtin.append_ #[t, u] ty #[.slice none 0 0, .string ⟨#[]⟩]).run P w = .ok (.slice none 0 0) w' := iP
  simp only [execOp, resolve, invoke, builtin, Sem.run_bind, Sem.run_pure, Result.andThen_ok, List.map_toArray, List.map_cons, List.map_nil, hx, hy, str, hrun']
end
end Go.Mw
namespace Go.Proofs.YtolaedhdjcnijaaGreatDoor
open Go Go.Mw Go.Lib
set_option maxRecDepth 4000
section
variable {w : World} {l : List UInt8}
theorem BU {b : Nat} {l news : List UInt8} {F : Nat → Prop} (fM : l ++ news ≠ []) (hp : (rD b l).ok F w) (hl : l.length + news.length ≤ 100000000) : bF Tryz.prog 79 [bI b, str news] w fun r w' => r = .tuple #[I news.length, .nilIface] ∧ Turn F (rD b (l ++ news)) w w' := by
 obtain ⟨a, v, ha, H⟩ := Sep.DW (Sep.iy hp)
 refine eU Tryz.func79 rfl rfl rfl rfl ?_
 refine Sr (Am ?_)
 refine Am ?_
 refine Nx (Mv ?_)
 obtain ⟨F0, gu, nk, bJ⟩ := H.focus At0
 refine bH (vJ ha.1 gu) rfl rfl (fun v' w5 hv => ?_)
 obtain ⟨rfl, dK, F1, hq, hs⟩ := hv
 have H5 := bJ _ F1 _ dK hq hs
 refine Nx (Mv ?_)
 refine Mv ?_
 refine Vv (Gives.nilCheck rfl) (Vf ?_)
 refine Ld H5 ?_
 refine Mv ?_
 refine tJ H5 (news := news) At1 (by omega) (h := ?_)
 intro v2 wa Ha
 obtain ⟨A2, c2, rfl, _⟩ := Sep.qE Ha At1
 refine Vv (Gives.nilCheck rfl) (Vf ?_)
 refine bW Ha (h := fun wb Hb => ?_)
 refine Nx (Mv ?_)
 refine Vt ?_
 refine Am ?_
 refine Am ?_
 refine Qn (aM (ak (hR := ?_)))
 exact ⟨rfl, (Sep.Gj ⟨.inr rfl, fun e => absurd e fM⟩ Hb).turn⟩
theorem BX {b : Nat} {F : Nat → Prop} (hp : (rD b []).ok F w) : bF Tryz.prog 79 [bI b, str []] w fun r w' => r = .tuple #[I 0, .nilIface] ∧ Turn F (rD b []) w w' := by
 obtain ⟨a, v, ha, H⟩ := Sep.DW (Sep.iy hp)
 have hv := ha.2 rfl
 subst hv
 refine eU Tryz.func79 rfl rfl rfl rfl ?_
 refine Sr (Am ?_)
 refine Am ?_
 refine Nx (Mv ?_)
 obtain ⟨F0, gu, nk, bJ⟩ := H.focus At0
 refine bH (vJ ha.1 gu) rfl rfl (fun v' w5 hv => ?_)
 obtain ⟨rfl, dK, F1, hq, hs⟩ := hv
 have H5 := bJ _ F1 _ dK hq hs
 refine Nx (Mv ?_)
 refine Mv ?_
 refine Vv (Gives.nilCheck rfl) (Vf ?_)
 refine Ld H5 ?_
 refine Mv ?_
 refine LC H5 At1 (h := fun wa Ha => ?_)
 refine Vv (Gives.nilCheck rfl) (Vf ?_)
 refine bW Ha (h := fun wb Hb => ?_)
 refine Nx (Mv ?_)
 refine Vt ?_
 refine Am ?_
 refine Am ?_
 refine Qn (aM (ak (hR := ?_)))
 exact ⟨rfl, (Sep.Gj ⟨.inr rfl, fun _ => rfl⟩ Hb).turn⟩
theorem uF {b : Nat} {l news : List UInt8} {F : Nat → Prop} (hp : (rD b l).ok F w) (hl : l.length + news.length ≤ 100000000) : bF Tryz.prog 79 [bI b, str news] w fun r w' => r = .tuple #[I news.length, .nilIface] ∧ Turn F (rD b (l ++ news)) w w' := by
 by_cases h : l ++ news = []
 ·obtain ⟨rfl, rfl⟩ := List.append_eq_nil_iff.1 h
  exact BX hp
 exact BU h hp hl
end
end Go.Proofs.YtolaedhdjcnijaaGreatDoor
namespace Go.Proofs.YtolaedhdjcnijaaGreatDoor
open Go Go.Mw Go.Lib
theorem lW (e : Int) : gN e 41 ≠ 0 := by
 unfold gN
 split
 ·decide
 assumption
theorem D8 {l : List UInt8} {a : Nat} {e : Int} (h : e ≠ 0) : dw l a e = (0, a, e) := if_pos h
theorem rE {l : List UInt8} {a : Nat} {e : Int} (h : e ≠ 0) : (dN l a e).2.2 ≠ 0 := by
 unfold dN
 rw [D8 h]
 show (gN e 41) ≠ 0
 exact lW e
theorem JB {e : Int} {p : Prop} [Decidable p] (h : e ≠ 0) : (if p then gN e 41 else e) ≠ 0 := by
 split
 ·exact lW e
 exact h
theorem ZR {l : List UInt8} {a : Nat} {e : Int} {c : UInt8} (h : e ≠ 0) : (iU l a e c).2 ≠ 0 := by
 unfold iU
 rw [D8 h]
 dsimp only
 split
 ·exact h
 exact lW e
theorem Uk {l : List UInt8} {a : Nat} {e : Int} {s : Bool} (h : e ≠ 0) : (lV l a e s).2.2 ≠ 0 := by
 unfold lV
 exact rE (rE (JB (rE (JB (rE h)))))
theorem zP {l : List UInt8} {a : Nat} (ha : a ≤ l.length) (h : l[a]? = none) : (dN l a 0).2.2 ≠ 0 := by
 have : a = l.length := by have := List.getElem?_eq_none_iff.1 h; omega
 unfold dN dw
 rw [if_neg (by simp), if_pos this]
 show gN 3 41 ≠ 0
 exact lW 3
theorem su {l : List UInt8} {a : Nat} {c : UInt8} (h : l[a]? = some c) : dw l a 0 = (c, a + 1, 0) := by
 have := (List.getElem?_eq_some_iff.1 h).1
 unfold dw
 rw [if_neg (by simp), if_neg (by omega), List.getD_eq_getElem?_getD, h]; rfl
theorem Ck {l : List UInt8} {a : Nat} {c : UInt8} (h : l[a]? = some c) (hd : fG c = none) : (dN l a 0).2.2 ≠ 0 := by
 unfold dN
 rw [su h]
 dsimp only
 rw [hd]
 exact lW 0
theorem JC {l : List UInt8} {a d : Nat} {c : UInt8} (h : l[a]? = some c) (hd : fG c = some d) : dN l a 0 = (d, a + 1, 0) := by
 unfold dN
 rw [su h]
 dsimp only
 rw [hd]
theorem LD {l : List UInt8} {a : Nat} {s : Bool} (ha : a ≤ l.length) : ((jF (l.drop a) s).2 = 0 → lV l a 0 s = ((jF (l.drop a) s).1, a + 4, 0)) ∧ ((jF (l.drop a) s).2 ≠ 0 → (lV l a 0 s).2.2 ≠ 0) := by
 unfold jF
 simp only [List.getElem?_drop, Nat.add_zero]
 unfold lV
 cases h0 : l[a]? with
 | none => exact ⟨fun h => absurd h (show ¬ (3 : Int) = 0 by decide), fun _ => rE (rE (JB (rE (JB (zP ha h0)))))⟩
 | some c0 =>
 have Yk := (List.getElem?_eq_some_iff.1 h0).1
 dsimp only
 cases g0 : fG c0 with
 | none => exact ⟨fun h => absurd h (show ¬ (41 : Int) = 0 by decide), fun _ => rE (rE (JB (rE (JB (Ck h0 g0)))))⟩
 | some d0 =>
 rw [JC h0 g0]
 dsimp only
 by_cases hs : s = true ∧ d0 ≠ 13
 ·rw [if_pos hs, if_pos hs]
  exact ⟨fun h => absurd h (show ¬ (41 : Int) = 0 by decide), fun _ => rE (rE (JB (rE (lW 0))))⟩
 rw [if_neg hs, if_neg hs]
 cases h1 : l[a + 1]? with
 | none => exact ⟨fun h => absurd h (show ¬ (3 : Int) = 0 by decide), fun _ => rE (rE (JB (zP (by omega) h1)))⟩
 | some c1 =>
 have YQ := (List.getElem?_eq_some_iff.1 h1).1
 dsimp only
 cases g1 : fG c1 with
 | none => exact ⟨fun h => absurd h (show ¬ (41 : Int) = 0 by decide), fun _ => rE (rE (JB (Ck h1 g1)))⟩
 | some d1 =>
 rw [JC h1 g1]
 dsimp only
 by_cases Pd : s ≠ decide (220 ≤ 16 * d0 + d1 ∧ 16 * d0 + d1 ≤ 223)
 ·rw [if_pos Pd, if_pos Pd]
  exact ⟨fun h => absurd h (show ¬ (41 : Int) = 0 by decide), fun _ => rE (rE (lW 0))⟩
 rw [if_neg Pd, if_neg Pd]
 cases h2 : l[a + 2]? with
 | none => exact ⟨fun h => absurd h (show ¬ (3 : Int) = 0 by decide), fun _ => rE (zP (by omega) h2)⟩
 | some c2 =>
 have UR := (List.getElem?_eq_some_iff.1 h2).1
 dsimp only
 cases g2 : fG c2 with
 | none => exact ⟨fun h => absurd h (show ¬ (41 : Int) = 0 by decide), fun _ => rE (Ck h2 g2)⟩
 | some d2 =>
 have e2 : dN l (a + 1 + 1) 0 = (d2, a + 1 + 1 + 1, 0) := JC h2 g2
 rw [e2]
 dsimp only
 cases h3 : l[a + 3]? with
 | none => exact ⟨fun h => absurd h (show ¬ (3 : Int) = 0 by decide), fun _ => zP (by omega) h3⟩
 | some c3 =>
 dsimp only
 cases g3 : fG c3 with
 | none => exact ⟨fun h => absurd h (show ¬ (41 : Int) = 0 by decide), fun _ => Ck h3 g3⟩
 | some d3 =>
 have e3 : dN l (a + 1 + 1 + 1) 0 = (d3, a + 1 + 1 + 1 + 1, 0) := JC h3 g3
 rw [e3]
 exact ⟨fun _ => rfl, fun h => absurd rfl h⟩
theorem Ul (r : Nat) (v : Utf8.valid (r : Int) = false) : (Utf8.encode (r : Int)).data.toList = [239, 191, 189] := by
 simp [Utf8.encode, v, Utf8.runeError]
theorem LG (r : Nat) : BP (r : Int) = encodeRune (r : Int) := by
 by_cases h : r ≤ 1114111 ∧ (r < 55296 ∨ 57343 < r)
 ·exact Ju r h.1 h.2
 have v : Utf8.valid (r : Int) = false := by simp [Utf8.valid]; omega
 rw [zL _ _ (Ul r v)]
 unfold encodeRune
 rw [encodeRuneZ_bad (by omega)]
 rfl
theorem Gt {l : List UInt8} {a : Nat} {c : UInt8} (ha : a ≤ l.length) (h : l[a]? = none) : (iU l a 0 c).2 ≠ 0 := by
 have : a = l.length := by have := List.getElem?_eq_none_iff.1 h; omega
 unfold iU dw
 rw [if_neg (by simp), if_pos this]
 dsimp only
 split
 ·decide
 exact lW 3
theorem D9 {l : List UInt8} {a : Nat} {c x : UInt8} (h : l[a]? = some x) (fM : x ≠ c) : (iU l a 0 c).2 ≠ 0 := by
 unfold iU
 rw [su h]
 dsimp only
 rw [if_neg fM]
 exact lW 0
theorem JD {l : List UInt8} {a : Nat} {c : UInt8} (h : l[a]? = some c) : iU l a 0 c = (a + 1, 0) := by
 unfold iU
 rw [su h]
 dsimp only
 rw [if_pos rfl]
theorem QX (c : UInt8) : q8 c = if c = 47 then some 47 else BH c := by
 unfold q8 BH
 by_cases h1 : c = 34
 ·subst h1; rfl
 by_cases h2 : c = 92
 ·subst h2; rfl
 by_cases h3 : c = 47
 ·subst h3; rfl
 simp only [h1, h2, h3, if_false]
theorem ZT : BH 0 = none := by decide
theorem Wd {l : List UInt8} {n : Nat} {g : Nat × Nat × Int} (h : g.2.2 ≠ 0) : (QW l n g).2.2 ≠ 0 := h
theorem XZ {l : List UInt8} {n : Nat} {a : Nat × Int} (h : a.2 ≠ 0) : (LB l n a).2.2 ≠ 0 := Wd (Uk (ZR h))
theorem X0 {l : List UInt8} {h : Nat × Nat × Int} (he : h.2.2 ≠ 0) : (NW l h).2.2 ≠ 0 := by
 unfold NW
 split
 ·exact XZ (ZR he)
 exact he
attribute [local irreducible] lV iU jF dN gN
theorem Um {l : List UInt8} {i r : Nat} (hi : i + 6 ≤ l.length) (hr : 55296 ≤ r) : ((BQ (l.drop i) r).2.2 = 0 → LB l r (iU l (i + 6) 0 92) = ((BQ (l.drop i) r).1, i + (BQ (l.drop i) r).2.1, 0)) ∧ ((BQ (l.drop i) r).2.2 ≠ 0 → (LB l r (iU l (i + 6) 0 92)).2.2 ≠ 0) := by
 have hd8 : (l.drop i).drop 8 = l.drop (i + 8) := by rw [List.drop_drop]
 unfold BQ
 rw [List.getElem?_drop, List.getElem?_drop, hd8]
 cases h6 : l[i + 6]? with
 | none => exact ⟨fun h => absurd h (show ¬ (3 : Int) = 0 by decide), fun _ => XZ (Gt hi h6)⟩
 | some c6 =>
 have hl6 := (List.getElem?_eq_some_iff.1 h6).1
 dsimp only
 by_cases g6 : c6 = 92
 ·subst g6
  rw [if_neg (by simp), JD h6]
  cases h7 : l[i + 7]? with
  | none => exact ⟨fun h => absurd h (show ¬ (3 : Int) = 0 by decide), fun _ => Wd (Uk (Gt (a := i + 7) (by omega) h7))⟩
  | some c7 =>
  have hl7 := (List.getElem?_eq_some_iff.1 h7).1
  dsimp only
  by_cases g7 : c7 = 117
  ·subst g7
   rw [if_neg (by simp)]
   unfold LB
   have e7 : iU l (i + 6 + 1) 0 117 = (i + 8, 0) := JD h7
   dsimp only
   rw [e7]
   obtain ⟨la, lb⟩ := LD (l := l) (a := i + 8) (s := true) (by omega)
   by_cases he : (jF (l.drop (i + 8)) true).2 ≠ 0
   ·rw [if_pos he]
    exact ⟨fun h => absurd h he, fun _ => Wd (lb he)⟩
   rw [if_neg he]
   have hq := la (Classical.not_not.1 he)
   dsimp only
   rw [hq]
   refine ⟨fun _ => ?_, fun h => (h (by dsimp only)).elim⟩
   unfold QW
   dsimp only
   rw [if_neg (by simp)]
   have e : 65536 + 1024 * ((r : Int) - 55296) + ((jF (l.drop (i + 8)) true).1 : Int) - 56320 = ((65536 + 1024 * (r - 55296) + (jF (l.drop (i + 8)) true).1 - 56320 : Nat) : Int) := by omega
   rw [e, LG]
  rw [if_pos g7]
  exact ⟨fun h => absurd h (show ¬ (41 : Int) = 0 by decide), fun _ => Wd (Uk (D9 (a := i + 7) h7 g7))⟩
 rw [if_pos g6]
 exact ⟨fun h => absurd h (show ¬ (41 : Int) = 0 by decide), fun _ => XZ (D9 h6 g6)⟩
theorem Un {l : List UInt8} {s : Bool} (h : (jF l s).2 = 0) : 4 ≤ l.length := by
 unfold jF at h
 cases h0 : l[0]? with
 | none => rw [h0] at h; cases h
 | some c0 =>
 cases h3 : l[3]? with
 | some c3 => have := (List.getElem?_eq_some_iff.1 h3).1; omega
 | none =>
  exfalso
  simp only [h0, h3] at h
  repeat' split at h
  all_goals first | cases h | exact absurd h (by decide)
theorem Wh {l : List UInt8} {i : Nat} (hi : i < l.length) : ((jh (l.drop i)).2.2 = 0 → uI l (i + 1) 0 = ((jh (l.drop i)).1, i + (jh (l.drop i)).2.1, 0)) ∧ ((jh (l.drop i)).2.2 ≠ 0 → (uI l (i + 1) 0).2.2 ≠ 0) := by
 have Cm : (l.drop i).drop 2 = l.drop (i + 2) := by rw [List.drop_drop]
 unfold jh uI
 rw [List.getElem?_drop, Cm]
 cases h1 : l[i + 1]? with
 | none =>
  have e1 : i + 1 = l.length := by have := List.getElem?_eq_none_iff.1 h1; omega
  have e2 : dw l (i + 1) 0 = (0, i + 1, 3) := by unfold dw; rw [if_neg (by simp), if_pos e1]
  refine ⟨fun h => absurd h (show ¬ (3 : Int) = 0 by decide), fun _ => ?_⟩
  rw [e2]
  unfold Gs
  dsimp only
  rw [if_neg (show ¬ (0 : UInt8) = 47 by decide), ZT]
  exact X0 (Uk (by rw [if_neg (show ¬ (0 : UInt8) = 117 by decide)]; exact lW 3))
 | some c =>
 have YQ := (List.getElem?_eq_some_iff.1 h1).1
 rw [su h1]
 unfold Gs
 dsimp only
 rw [QX]
 by_cases YA : c = 47
 ·rw [if_pos YA, if_pos YA]
  subst YA
  exact ⟨fun _ => by dsimp only, fun h => (h (by dsimp only)).elim⟩
 rw [if_neg YA, if_neg YA]
 cases hb : BH c with
 | some k => exact ⟨fun _ => by dsimp only, fun h => (h (by dsimp only)).elim⟩
 | none =>
 dsimp only
 by_cases WO : c = 117
 ·rw [if_neg (by simp [WO]), if_pos WO]
  obtain ⟨la, lb⟩ := LD (l := l) (a := i + 2) (s := false) (by omega)
  by_cases he : (jF (l.drop (i + 2)) false).2 ≠ 0
  ·rw [if_pos he]
   exact ⟨fun h => absurd h he, fun _ => X0 (lb he)⟩
  rw [if_neg he]
  have hh := Un (Classical.not_not.1 he)
  rw [List.length_drop] at hh
  have hq : lV l (i + 1 + 1) 0 false = ((jF (l.drop (i + 2)) false).1, i + 6, 0) := la (Classical.not_not.1 he)
  rw [hq]
  unfold NW
  dsimp only
  generalize (jF (l.drop (i + 2)) false).1 = r at hq
  by_cases hr : r < 55296 ∨ 56319 < r
  ·rw [if_pos hr, if_neg (by omega), if_neg (by simp), LG]
   exact ⟨fun _ => by dsimp only, fun h => (h (by dsimp only)).elim⟩
  rw [if_neg hr, if_pos (by omega)]
  exact Um (by omega) (by omega)
 rw [if_pos WO, if_neg WO]
 exact ⟨fun h => absurd h (show ¬ (41 : Int) = 0 by decide), fun _ => X0 (Uk (lW 0))⟩
end Go.Proofs.YtolaedhdjcnijaaGreatDoor
namespace Go.Proofs.YtolaedhdjcnijaaGreatDoor
open Go Go.Mw Go.Lib
set_option maxRecDepth 4000
theorem X3 : gN 0 3 = 3 := rfl
theorem QY {l : List UInt8} : (q9 l).1 = if (iU l 0 0 34).2 = 0 then (lS l (iU l 0 0 34).1 []).1 else [] := by
 cases l with
 | nil => rfl
 | cons c t =>
  by_cases h : c = 34
  ·subst h
   rw [JD (l := 34 :: t) (a := 0) rfl, if_pos rfl]
   rfl
  rw [if_neg (D9 (l := c :: t) (a := 0) rfl h)]
  show (if c ≠ 34 then (([], 0, 41) : List UInt8 × Nat × Int) else oC (t.length + 1) t 1 []).1 = []
  rw [if_pos h]
theorem QZ {l : List UInt8} {i : Nat} {out : List UInt8} (h : i < l.length) (hc : l.getD i 0 = 34) : (lS l i out).1 = out := by
 rw [tN h hc.symm, if_pos rfl]
theorem Wi {l : List UInt8} {i : Nat} {out : List UInt8} (h : i < l.length) (hc : l.getD i 0 = 92) : ((uI l (i + 1) 0).2.2 = 0 → (lS l i out).1 = (lS l (uI l (i + 1) 0).2.1 (out ++ (uI l (i + 1) 0).1)).1) ∧ ((uI l (i + 1) 0).2.2 ≠ 0 → (lS l i out).1 = []) := by
 obtain ⟨ha, hb⟩ := Wh h
 have hs := tN (out := out) h hc.symm
 rw [if_neg (by decide), if_neg (by decide), if_pos rfl] at hs
 by_cases he : (jh (l.drop i)).2.2 = 0
 ·have hq := ha he
  rw [if_neg (by simp [he])] at hs
  rw [hs, hq]
  exact ⟨fun _ => rfl, fun h => absurd rfl h⟩
 rw [if_pos he] at hs
 have hq := hb he
 rw [hs]
 exact ⟨fun h => absurd h hq, fun _ => rfl⟩
theorem Q0 {l : List UInt8} {i : Nat} {out : List UInt8} (h : i < l.length) (h34 : l.getD i 0 ≠ 34) (h92 : l.getD i 0 ≠ 92) : ((lH l i).2.2 = true → (lS l i out).1 = (lS l (lH l i).2.1 (out ++ (lH l i).1)).1) ∧ ((lH l i).2.2 = false → (lS l i out).1 = []) := by
 have hs := tN (out := out) h rfl
 rw [if_neg h34] at hs
 unfold lH
 by_cases Ww : (l.getD i 0).toNat < 32
 ·rw [if_pos Ww]
  rw [if_pos (UInt8.lt_iff_toNat_lt.2 Ww)] at hs
  rw [hs]
  exact ⟨fun h => by (dsimp only at h; cases h), fun _ => rfl⟩
 rw [if_neg Ww]
 rw [if_neg (fun h => Ww (UInt8.lt_iff_toNat_lt.1 h)), if_neg h92] at hs
 cases hn : d9 (l.drop i) with
 | none =>
  rw [hn] at hs
  rw [hs, if_neg (by simp)]
  exact ⟨fun h => by (dsimp only at h; cases h), fun _ => rfl⟩
 | some p =>
  obtain ⟨r, n⟩ := p
  have X6 : gL (l.drop i) = (r, n) := by unfold gL; rw [hn]; rfl
  rw [hn, X6, if_pos (by simp)] at hs
  rw [hs]
  exact ⟨fun _ => rfl, fun h => by (dsimp only at h; cases h)⟩
theorem LH (r : Int) : (BP r).length ≤ 4 := by
 unfold BP Utf8.encode
 dsimp only
 repeat' split
 all_goals simp
attribute [local irreducible] lV iU dN gN dw
theorem NZ {l : List UInt8} {a : Nat} {e : Int} (ha : a ≤ l.length) : (uI l a e).1.length ≤ 4 ∧ (uI l a e).2.1 ≤ l.length := by
 have ht := take_at (e := e) ha
 unfold uI Gs
 split
 ·exact ⟨by simp, ht⟩
 split
 ·exact ⟨by simp, ht⟩
 have hh := Jy (e := if (dw l a e).1 = 117 then (dw l a e).2.2 else gN (dw l a e).2.2 41) (s := false) ht
 generalize lV l (dw l a e).2.1 (if (dw l a e).1 = 117 then (dw l a e).2.2 else gN (dw l a e).2.2 41) false = h at *
 unfold NW
 split
 ·refine ⟨?_, Jy (zN (zN hh))⟩
  unfold LB QW
  dsimp only
  split
  ·simp
  exact LH _
 refine ⟨?_, hh⟩
 dsimp only
 split
 ·simp
 exact LH _
theorem Ea (l : List UInt8) (a : Nat) (e : Int) : a ≤ (dw l a e).2.1 := by
 unfold dw
 split
 ·exact Nat.le_refl _
 split
 ·exact Nat.le_refl _
 dsimp only; omega
theorem xJ (l : List UInt8) (a : Nat) (e : Int) : a ≤ (dN l a e).2.1 := by
 unfold dN
 split <;> exact Ea l a e
theorem LJ (l : List UInt8) (a : Nat) (e : Int) (s : Bool) : a ≤ (lV l a e s).2.1 := by
 unfold lV
 exact Nat.le_trans (Nat.le_trans (Nat.le_trans (xJ l a e) (xJ l _ _)) (xJ l _ _)) (xJ l _ _)
theorem LK (l : List UInt8) (a : Nat) (e : Int) (c : UInt8) : a ≤ (iU l a e c).1 := by
 unfold iU
 exact Ea l a e
theorem Wj {l : List UInt8} {a : Nat} {e : Int} : a ≤ (uI l a e).2.1 := by
 have ht := Ea l a e
 unfold uI Gs
 split
 ·exact ht
 split
 ·exact ht
 have hh := LJ l (dw l a e).2.1 (if (dw l a e).1 = 117 then (dw l a e).2.2 else gN (dw l a e).2.2 41) false
 generalize lV l (dw l a e).2.1 (if (dw l a e).1 = 117 then (dw l a e).2.2 else gN (dw l a e).2.2 41) false = h at *
 unfold NW
 split
 ·unfold LB QW
  dsimp only
  exact Nat.le_trans (Nat.le_trans (Nat.le_trans (Nat.le_trans ht hh) (LK l _ _ _)) (LK l _ _ _)) (LJ l _ _ _)
 exact Nat.le_trans ht hh
theorem JE {l : List UInt8} {i : Nat} (hi : i < l.length) : (lH l i).1.length ≤ 4 * ((lH l i).2.1 - i) ∧ i ≤ (lH l i).2.1 ∧ (lH l i).2.1 ≤ l.length ∧ ((lH l i).2.2 = true → i < (lH l i).2.1) := by
 unfold lH
 split
 ·exact ⟨by simp, Nat.le_refl _, by dsimp only; omega, fun h => by cases h⟩
 split
 ·rename_i r n hn
  obtain ⟨_, h1, h2, _⟩ := pU hn
  rw [List.length_drop] at h2
  dsimp only
  rw [List.length_take, List.length_drop]
  exact ⟨by omega, by omega, by omega, fun _ => by omega⟩
 exact ⟨by simp, Nat.le_refl _, by dsimp only; omega, fun h => by cases h⟩
section
variable {w : World}
theorem LM (l : List UInt8) (hl : l.length ≤ 1000000) (hT : je w) : bF Tryz.prog 146 [str l] w fun v w' => (∃ n e, v = .tuple #[str (q9 l).1, I n, I e]) ∧ Kept noB w w' := by
 have H := Sep.bB w
 obtain ⟨res, ay⟩ : ∃ res, res = (q9 l).1 := ⟨_, rfl⟩
 have aaz := ay
 rw [QY] at ay
 have Rf := zN (l := l) (at_ := 0) (e := 0) (c := 34) (Nat.zero_le _)
 rw [← aaz]
 refine dP Tryz.func146 rfl rfl rfl rfl ?_
 refine Sr (Am ?_)
 refine Am ?_
 refine Am ?_
 refine Nx (Mv ?_)
 refine Vv (Gives.build (out := [str l, I 0, I 0]) (Fills.one rfl rfl rfl (by simp) rfl Fills.nil)) (dz H (cs := [str l, I 0, I 0]) rfl (h := fun b5 w7 H7 k6 => ?_))
 refine Am ?_
 refine Nx (Mv ?_)
 obtain ⟨F0, gu, nk, bJ⟩ := H7.focus At0
 refine bH (D7 (l := l) (at_ := 0) (e := 0) 34 gu hl (Nat.zero_le _)) rfl rfl (fun v' wa hv => ?_)
 obtain ⟨rfl, dK, F1, hq, hs⟩ := hv
 have Ha := bJ _ F1 _ dK hq hs
 refine Nx (bD Ha (h := fun b6 wb Hb ka => ?_))
 replace Hb := Sep.XT Hb
 refine Qn (au (aF (bA (fun _ : Nat × Int × List UInt8 => [(0, str l), (5, bI b5), (6, bI b6)]) (fun x w' => (x.1 ≤ l.length ∧ x.2.2.length ≤ 4 * x.1 ∧ res = if x.2.1 = 0 then (lS l x.1 x.2.2).1 else []) ∧ Sep w noB [rD b6 x.2.2, oU b5 l x.1 x.2.1] w') (fun x _ => if x.2.1 = 0 then l.length - x.1 + 1 else 0) ((iU l 0 0 34).1, (iU l 0 0 34).2, []) ⟨rfl, rfl, rfl, trivial⟩ ⟨⟨Rf, by simp, ay⟩, Hb⟩ (fun x τ wc hI => ?_))))
 obtain ⟨i, e, out⟩ := x
 obtain ⟨⟨hi, O8, dJ⟩, Hc⟩ := hI
 dsimp only at hi O8 dJ Hc
 unfold oU at Hc
 try simp only [cZ, like, bC, bZ]
 refine au (Sr (Mv ?_))
 refine Vv (Gives.nilCheck rfl) (Vf ?_)
 refine Ld Hc ?_
 refine Ve ?_
 refine Qn (Cp rfl (fun Ia => ?_) (fun Ia => ?_))
 ·have Xf : e = 0 := Ia
  subst Xf
  rw [if_pos rfl] at dJ
  refine Sk (aF (aF (Sr (Mv ?_))))
  refine Vv (Gives.nilCheck rfl) (Vf ?_)
  refine Ld Hc ?_
  refine Mv ?_
  refine Vt ?_
  refine Ve ?_
  refine Am ?_
  refine Qn (Cp rfl (fun Ib => ?_) (fun Ib => ?_))
  ·have jW : i = l.length := by omega
   have UN : res = [] := by rw [dJ, Al (by omega)]
   refine aB (Mv ?_)
   obtain ⟨F0, gu, nk, bJ⟩ := Hc.focus At1
   refine bH (l8 (l := l) (e := 0) 3 gu) rfl rfl (fun v' wd hv => ?_)
   obtain ⟨rfl, dK, F1, hq, hs⟩ := hv
   have Hd := bJ _ F1 _ dK hq hs
   rw [X3] at Hd
   refine aP (aA (aA ?_))
   exact aC (i, 3, out) ⟨rfl, rfl, rfl, trivial⟩ ⟨⟨hi, O8, by rw [UN]; rfl⟩, Hd⟩ (by show 0 < (if (0 : Int) = 0 then _ else _); rw [if_pos rfl]; omega)
  have bU : i < l.length := by omega
  refine Sr (Mv ?_)
  refine Mv ?_
  refine Vv (Gives.nilCheck rfl) (Vf ?_)
  refine Ld Hc ?_
  refine Vv (Gives.fF rfl rfl (by omega)) (Ve ?_)
  refine Am ?_
  refine Qn (Cp rfl (fun Ic => ?_) (fun Ic => ?_))
  ·have Id : l.getD i 0 = 34 := UInt8.toNat_inj.1 (by have h := Ic; show (l.getD i 0).toNat = 34; omega)
   rw [QZ bU Id] at dJ
   refine au (bG rfl Hc (h := fun Sa we He => ?_))
   refine Gm Sa 1 ?_
   refine Gp Sa 2 rfl rfl (fun _ => (Gives.nilCheck rfl)) (Gp Sa 3 rfl rfl (fun _ => (Gives.dx rfl)) ?_)
   refine cK Sa 4 He (h := ?_)
   refine Gp Sa 5 rfl rfl (fun _ => (Gives.bM rfl rfl rfl (by omega))) ?_
   obtain ⟨F0, gu, nk, bJ⟩ := He.focus At0
   refine sN Sa 0 [(5, true), (4, false), (3, true), (2, true), (1, true)] rfl (by kernel_rfl) (Av gu (by omega)) rfl (by kernel_rfl) (by kernel_rfl) (fun v' wf hv => ?_)
   obtain ⟨rfl, dK, F1, hq, hs⟩ := hv
   have Hf := bJ _ F1 _ dK hq hs
   refine ⟨av (bQ Hf (h := av (av (av (aK))))), ?_⟩
   refine Gp Sa 6 rfl rfl (fun _ => Gives.assign rfl) (Gp Sa 7 rfl rfl (fun _ => Gives.assign rfl) ?_)
   refine Gp Sa 8 rfl rfl (fun _ => Gives.assign rfl) (bR Sa (by kernel_rfl) ?_)
   refine aj (aM (aH (aH (aR (aH (aL (ak (hR := ?_))))))))
   exact ⟨⟨_, _, by rw [dJ]; rfl⟩, Hf.kept⟩
  have Id : l.getD i 0 ≠ 34 := fun h => Ic (by rw [h]; rfl)
  refine Sr (Mv ?_)
  refine Mv ?_
  refine Vv (Gives.nilCheck rfl) (Vf ?_)
  refine Ld Hc ?_
  refine Vv (Gives.fF rfl rfl (by omega)) (Ve ?_)
  refine Am ?_
  refine Qn (Cp rfl (fun Ie => ?_) (fun Ie => ?_))
  ·have If : l.getD i 0 = 92 := UInt8.toNat_inj.1 (by have h := Ie; show (l.getD i 0).toNat = 92; omega)
   obtain ⟨WL, uo⟩ := Wi (out := out) bU If
   rw [← dJ] at WL uo
   obtain ⟨hb1, Cn⟩ := NZ (l := l) (a := i + 1) (e := 0) (by omega)
   have WQ := Wj (l := l) (a := i + 1) (e := 0)
   obtain ⟨q, hq⟩ : ∃ q, q = uI l (i + 1) 0 := ⟨_, rfl⟩
   rw [← hq] at WL uo hb1 Cn WQ
   have hif : res = if q.2.2 = 0 then (lS l q.2.1 (out ++ q.1)).1 else [] := by
    split
    ·exact WL (by assumption)
    exact uo (by assumption)
   refine Sr (Mv ?_)
   refine Vv (Gives.nilCheck rfl) (Vf ?_)
   refine Ld Hc ?_
   refine Vv (Gives.bM (c := ((i + 1 : Nat) : Int)) rfl rfl (by omega) (by omega)) (Vv (Gives.nilCheck rfl) ?_)
   refine Vf ?_
   refine bW Hc (h := fun wg Hg => ?_)
   refine Qn (aB (Mv ?_))
   obtain ⟨F0, gu, nk, bJ⟩ := Hg.focus At1
   refine bH (NY (l := l) (at_ := i + 1) (e := 0) gu hl (by omega)) rfl rfl (fun v' wh hv => ?_)
   obtain ⟨rfl, dK, F1, YB, hs⟩ := hv
   have Hh := bJ _ F1 _ dK YB hs
   rw [← hq]
   rw [← hq] at Hh
   obtain ⟨F0, gu, nk, bJ⟩ := Hh.focus At0
   refine bH (uF gu (by omega)) rfl rfl (fun v' wi hv => ?_)
   obtain ⟨rfl, dK, F1, YB, hs⟩ := hv
   have Hi := bJ _ F1 _ dK YB hs
   refine aP (aA (aA ?_))
   exact aC (q.2.1, q.2.2, out ++ q.1) ⟨rfl, rfl, rfl, trivial⟩ ⟨⟨Cn, by dsimp only; rw [List.length_append]; omega, hif⟩, Hi⟩ (by dsimp only; rw [if_pos rfl]; split <;> omega)
  have If : l.getD i 0 ≠ 92 := fun h => Ie (by rw [h]; rfl)
  obtain ⟨WL, uo⟩ := Q0 (out := out) bU Id If
  rw [← dJ] at WL uo
  obtain ⟨hb1, hb3, Cn, WQ⟩ := JE bU
  obtain ⟨q, hq⟩ : ∃ q, q = lH l i := ⟨_, rfl⟩
  rw [← hq] at WL uo hb1 Cn hb3 WQ
  refine aB (Mv ?_)
  obtain ⟨F0, gu, nk, bJ⟩ := Hc.focus At1
  refine bH (QT (l := l) (at_ := i) gu hl bU (hT.keep Hc.kept).utf) rfl rfl (fun v' wj hv => ?_)
  obtain ⟨x1, rfl, hx1, dK, F1, YB, hs⟩ := hv
  have Hj := bJ _ F1 _ dK YB hs
  rw [← hq] at hx1
  rw [← hq]
  rw [← hq] at Hj
  have hif : res = if x1 = 0 then (lS l q.2.1 (out ++ q.1)).1 else [] := by
   split
   ·exact WL (hx1.2 (by assumption))
   rename_i h0
   cases hb : q.2.2 with
   | true => exact absurd (hx1.1 hb) h0
   | false => exact uo hb
  have hms : (if x1 = 0 then l.length - q.2.1 + 1 else 0) < l.length - i + 1 := by
   split
   ·have := WQ (hx1.2 (by assumption)); omega
   omega
  obtain ⟨F0, gu, nk, bJ⟩ := Hj.focus At0
  refine bH (uF gu (by omega)) rfl rfl (fun v' wk hv => ?_)
  obtain ⟨rfl, dK, F1, YB, hs⟩ := hv
  have Hk := bJ _ F1 _ dK YB hs
  refine aP (aA (aA ?_))
  exact aC (q.2.1, x1, out ++ q.1) ⟨rfl, rfl, rfl, trivial⟩ ⟨⟨Cn, by dsimp only; rw [List.length_append]; omega, hif⟩, Hk⟩ (by dsimp only; rw [if_pos rfl]; exact hms)
 have UN : res = [] := by rw [dJ, if_neg Ia]
 refine bq (aT (aO (aV (aj (au (bG rfl Hc (h := fun Sb wl Hl => ?_)))))))
 refine Gm Sb 0 ?_
 refine Gp Sb 1 rfl rfl (fun _ => (Gives.nilCheck rfl)) (Gp Sb 2 rfl rfl (fun _ => (Gives.dx rfl)) ?_)
 refine cK Sb 3 Hl (h := ?_)
 refine Gp Sb 4 rfl rfl (fun _ => Gives.assign rfl) (Gp Sb 5 rfl rfl (fun _ => Gives.assign rfl) ?_)
 refine Gp Sb 6 rfl rfl (fun _ => Gives.assign rfl) (bR Sb (by kernel_rfl) ?_)
 refine aj (aM (ak (hR := ?_)))
 exact ⟨⟨_, _, by rw [UN]; rfl⟩, Hl.kept⟩
end
theorem N7 {w : List UInt8} {k : Int} (hw : w ≠ []) (h1 : 1 ≤ k) (h5 : k ≤ 5) (h : ∀ j : Int, 1 ≤ j → j < k → lQ j ≠ w) (hk : lQ k = w) : [1, 3, 4, 5].find? (fun k : Int => decide (lQ k = w)) = some k := by
 have hd : ∀ j : Int, 1 ≤ j → j < k → decide (lQ j = w) = false := fun j a b => decide_eq_false (h j a b)
 have hk' : decide (lQ k = w) = true := decide_eq_true hk
 rcases (by omega : k = 1 ∨ k = 2 ∨ k = 3 ∨ k = 4 ∨ k = 5) with e | e | e | e | e <;> subst e
 ·simp only [List.find?_cons, hk']
 ·exact absurd hk.symm hw
 ·simp only [List.find?_cons, hd 1 (by omega) (by omega), hk']
 ·simp only [List.find?_cons, hd 1 (by omega) (by omega), hd 3 (by omega) (by omega), hk']
 simp only [List.find?_cons, hd 1 (by omega) (by omega), hd 3 (by omega) (by omega), hd 4 (by omega) (by omega), hk']
theorem N8 {w : List UInt8} (h : ∀ k : Int, 1 ≤ k → k < 6 → lQ k ≠ w) : [1, 3, 4, 5].find? (fun k : Int => decide (lQ k = w)) = none := by
 rw [List.find?_eq_none]
 intro k hk
 simp only [List.mem_cons, List.not_mem_nil, or_false] at hk
 have := h k (by omega) (by omega)
 simpa using this
theorem Q5 : [1, 3, 4, 5].find? (fun k : Int => decide (lQ k = [])) = none := by decide
theorem N9 (w : List UInt8) (c : UInt8) : Lib.hasPrefix w [c] = decide (w.head? = some c) := by
 unfold Lib.hasPrefix
 cases w with
 | nil => rfl
 | cons x t =>
  by_cases h : c = x
  ·subst h; simp [List.isPrefixOf]
  have h' : ¬ x = c := fun e => h e.symm
  simp [List.isPrefixOf, h, h']
theorem Wm {p : List UInt8 → Bool} {i : Nat} (h : eG.findIdx? p = some i) : eG[i]? = eG[i]? ∧ i < 12 := by
 obtain ⟨h1, _⟩ := List.findIdx?_eq_some_iff_getElem.1 h
 exact ⟨rfl, h1⟩
section
variable {w : World}
theorem BI (l : List UInt8) (hl : l.length ≤ 1000000) (hT : je w) : bF Tryz.prog 145 [str l, I 10, I 64] w fun v w' => (∃ e, v = .tuple #[I (jZ l), e]) ∧ Kept noB w w' := by
 have hs : (⟨l.toArray⟩ : ByteArray).size = l.length := Mw.size_mk l
 cases h : Lib.parseIntB 64 l
 ·rename_i v
  have hn : jZ l = v := by unfold jZ; rw [h]
  rw [hn]
  exact Calls.mono (Tryz.strconv_ParseInt_10_at64_ok ⟨l.toArray⟩ (by rw [hs]; omega) v h w) fun e w' he => by
   obtain ⟨rfl, hw⟩ := he
   refine ⟨⟨_, rfl⟩, ?_⟩
   rcases hw with rfl | ⟨t, rfl⟩
   ·exact Kept.refl _ _
   exact Kept.of_below (Lib.bytesWorld_below _ _ _)
 ·skip
  have hn : jZ l = 0 := by unfold jZ; rw [h]
  rw [hn]
  obtain ⟨tp, p, hv⟩ := hT.syn
  exact Calls.mono (Tryz.strconv_ParseInt_10_at64_syntax_var ⟨l.toArray⟩ (by rw [hs]; omega) h rfl tp p w hv) fun e w' he => by
   obtain ⟨N, rfl, _, _, hb⟩ := he
   exact ⟨⟨_, rfl⟩, Kept.of_below hb⟩
 ·skip
  have hn : jZ l = Lib.intSat 64 l := by unfold jZ; rw [h]
  rw [hn]
  obtain ⟨tp, p, hv⟩ := hT.ran
  exact Calls.mono (Tryz.strconv_ParseInt_10_at64_range_var ⟨l.toArray⟩ (by rw [hs]; omega) h tp p w hv) fun e w' he => by
   obtain ⟨N, rfl, _, _, hb⟩ := he
   exact ⟨⟨_, rfl⟩, Kept.of_below hb⟩
theorem um (l : List UInt8) (c : UInt8) : bF Tryz.prog 77 [str l, str [c]] w fun v w' => v = .bool (decide (l.head? = some c)) ∧ w = w' :=
 l7 (by
  have := Tryz.strings_HasPrefix ⟨l.toArray⟩ ⟨[c].toArray⟩ w
  rw [← N9]
  exact this)
theorem Q6 (s : List UInt8) (hl : s.length ≤ 1000000) (hT : je w) : bF Tryz.prog 100 [str s] w fun v w' => v = agg (aI (dM s)) ∧ Kept noB w w' := by
  have H := Sep.bB w
  obtain ⟨res, ay⟩ : ∃ res, res = dM s := ⟨_, rfl⟩
  rw [← ay]
  unfold dM at ay
  obtain ⟨ix, hix⟩ : ∃ ix, ix = eG.findIdx? (fun x => decide (x = s)) := ⟨_, rfl⟩
  have acv : eG.findIdx? (fun y => decide (s = y)) = ix := by
    rw [hix]
    exact congrArg (fun p => eG.findIdx? p) (funext fun y => decide_eq_decide.2 eq_comm)
  rw [← hix] at ay
  refine qo Tryz.func100 rfl rfl rfl rfl ?_
  refine Sr (bD H (h := fun b1 w2 H2 k1 => ?_))
  refine Qn (au (Sr (bH (Lr) rfl rfl (fun v' w4 hv => ?_))))
  obtain ⟨bs, rfl, _, dK, F1, hq, gV⟩ := hv
  have H4 := H2.new dK hq (fun b hb => (gV b hb).resolve_left id)
  have hR : Rd w4 (some ⟨bs, 0, none⟩) bX 1 eG := Sep.gJ H4 At0 rfl
  have hRI : dn w4 (.slice (some ⟨bs, 0, none⟩) 12 12) bX 1 eG := ⟨some ⟨bs, 0, none⟩, 12, rfl, ⟨Nat.le_refl _, by decide⟩, hR⟩
  refine Mv ?_
  refine aN H4 (QB s hRI) (h := fun w7 H7 k6 => ?_)
  rw [acv]
  refine Am ?_
  refine Nx (Mv ?_)
  refine Vv (Gives.geq rfl rfl) (Qn ?_)
  refine Cp rfl (fun Ia => ?_) (fun Ia => ?_)
  · obtain ⟨i, hi⟩ : ∃ i : Nat, ix = some i := by
      cases ix with
      | some i => exact ⟨i, rfl⟩
      | none => exact absurd Ia (by decide)
    have acw : Jo ix = (i : Int) := by rw [hi]; rfl
    rw [hi] at ay
    dsimp only at ay
    refine Sr (Mv ?_)
    rw [acw]
    refine Vv (Gives.bM (c := (7 + (i : Int))) rfl rfl rfl (by have := (Wm (hix.symm.trans hi)).2; omega)) (Vv (Gives.build (out := aI ⟨7 + (i : Int), 0, []⟩) (Fills.one rfl rfl rfl (by simp) rfl Fills.nil)) ?_)
    refine aD H7 (h := fun wa Ha => ?_)
    refine Qn (Rs (aW (h := ?_)))
    exact ⟨_, gB Ha, by rw [ay]; rfl, Ha.kept⟩
  have hi : ix = none := by
    cases ix with
    | none => rfl
    | some i => exact absurd (show Jo (some i) ≥ 0 from Int.natCast_nonneg i) Ia
  rw [hi] at ay
  dsimp only at ay
  refine Sk (au (Sr (Am ?_)))
  refine Qn (aF (bA (fun k : Nat => [(0, str s), (2, .pointer (some ⟨b1, 0, none⟩)), (4, I k)]) (fun k w' => (1 ≤ k ∧ k ≤ 6 ∧ ∀ j : Int, 1 ≤ j → j < k → s ≠ [] → lQ j ≠ s) ∧ Sep w noB [blk b1 (aI ⟨0, 0, []⟩) 60] w') (fun k _ => 6 - k) 1 ⟨rfl, rfl, rfl, trivial⟩ ⟨⟨Nat.le_refl _, by decide, fun j a b => absurd b (by omega)⟩, (H7.dS).firsts (l := [_])⟩ (fun k τ wb hI => ?_)))
  obtain ⟨⟨WI, YW, Cb⟩, Hb⟩ := hI
  try simp only [cZ, like, bC, bZ]
  refine au (Sr (Mv ?_))
  refine Vv (Gives.leq rfl rfl) (Qn ?_)
  refine Cp rfl (fun Ib => ?_) (fun Ib => ?_)
  · refine Sk (au (aF (Sr (Mv ?_))))
    refine Vv (Gives.EA rfl rfl) (Mv ?_)
    refine aG (t := 28) rfl (fun Sa => ?_) (fun Sa => ?_)
    · have Cq : s ≠ [] := Sa
      refine On (Mv ?_)
      refine On (Mv ?_)
      refine On (aN Hb (Jq (k : Int)) (h := fun wc Hc ka => ?_))
      refine On (Vv (Gives.iD rfl rfl) (Pt ?_))
      refine Qn (Cp rfl (fun Ic => ?_) (fun Ic => ?_))
      · have YD : [1, 3, 4, 5].find? (fun k : Int => decide (lQ k = s)) = some (k : Int) := N7 Cq (by omega) (by omega) (fun j a b => Cb j a b Cq) (Eq.symm Ic)
        rw [YD] at ay
        dsimp only at ay
        refine Sr (Mv ?_)
        refine Vv (Gives.build (out := aI ⟨6, (k : Int), []⟩) (Fills.one rfl rfl rfl (by simp) rfl (Fills.one rfl rfl rfl (by simp) rfl Fills.nil))) (aD Hc (h := fun wd Hd => ?_))
        refine Qn (Rb (aR (aH (aL (aW (h := ?_))))))
        exact ⟨_, gB Hd, by rw [ay]; rfl, Hd.kept⟩
      have hnk : s ≠ [] → lQ (k : Int) ≠ s := fun _ h => Ic h.symm
      refine aY (aA (aj (aB (Mv ?_))))
      refine Vv (Gives.bM (c := ((k + 1 : Nat) : Int)) rfl rfl (by omega) (by omega)) (Am ?_)
      refine aP ?_
      exact aC (k + 1) ⟨rfl, rfl, rfl, trivial⟩ ⟨⟨by omega, by omega, fun j a b h0 => by
      by_cases e : j = k
      · rw [e]; exact hnk h0
      exact Cb j a (by omega) h0⟩, Hc⟩ (by omega)
    have Cq : s = [] := Classical.not_not.1 Sa
    have hnk : s ≠ [] → lQ (k : Int) ≠ s := fun h => absurd Cq h
    refine Of (Of (Of (Of (Pf ?_))))
    refine Qn (bg rfl ?_)
    refine aY (aA (aj (aB (Mv ?_))))
    refine Vv (Gives.bM (c := ((k + 1 : Nat) : Int)) rfl rfl (by omega) (by omega)) (Am ?_)
    refine aP ?_
    exact aC (k + 1) ⟨rfl, rfl, rfl, trivial⟩ ⟨⟨by omega, by omega, fun j a b h0 => by
    by_cases e : j = k
    · rw [e]; exact hnk h0
    exact Cb j a (by omega) h0⟩, Hb⟩ (by omega)
  have hk : k = 6 := by omega
  have YD : [1, 3, 4, 5].find? (fun k : Int => decide (lQ k = s)) = none := by
    by_cases h0 : s = []
    · rw [h0]; exact Q5
    exact N8 fun j a b => Cb j a (by omega) h0
  rw [YD] at ay
  dsimp only at ay
  refine bq (aT (aO (aV (aj (au (aF (Sr (Mv ?_))))))))
  refine Vv (Gives.iD rfl rfl) (Am ?_)
  refine Qn (Cp rfl (fun Id => ?_) (fun Id => ?_))
  · rw [if_pos (show s = mM from Id)] at ay
    refine Sr (Vv (Gives.build (out := aI ⟨3, 1, []⟩) (Fills.one rfl rfl rfl (by simp) rfl (Fills.one rfl rfl rfl (by simp) rfl Fills.nil))) (aD Hb (h := fun we He => ?_)))
    refine Qn (Rb (aW (h := ?_)))
    exact ⟨_, gB He, by rw [ay]; rfl, He.kept⟩
  rw [if_neg (show ¬ s = mM from Id)] at ay
  refine Sr (Mv ?_)
  refine Vv (Gives.iD rfl rfl) (Am ?_)
  refine Qn (Cp rfl (fun Ie => ?_) (fun Ie => ?_))
  · rw [if_pos (show s = vk from Ie)] at ay
    refine Sr (Vv (Gives.build (out := aI ⟨3, 0, []⟩) (Fills.one rfl rfl rfl (by simp) rfl Fills.nil)) (aD Hb (h := fun wf Hf => ?_)))
    refine Qn (Rb (aW (h := ?_)))
    exact ⟨_, gB Hf, by rw [ay]; rfl, Hf.kept⟩
  rw [if_neg (show ¬ s = vk from Ie)] at ay
  refine Sr (Mv ?_)
  refine dY (um s 35) (h := ?_)
  refine Am ?_
  refine Qn (Cp rfl (fun If => ?_) (fun If => ?_))
  · have hh : s.head? = some 35 := If
    rw [if_pos hh] at ay
    refine Sr (Mv ?_)
    refine Vv (Gives.dW (i := 1) rfl rfl (by cases s with | nil => cases hh | cons a b => simp)) (bH (BI (s.drop 1) (by rw [List.length_drop]; omega) (hT.keep Hb.kept)) rfl rfl (fun v' wg hv => ?_))
    obtain ⟨⟨er, rfl⟩, dK⟩ := hv
    have Hg := Hb.keep dK
    refine Mv ?_
    refine Vx ?_
    refine Vx ?_
    refine Am ?_
    refine Am ?_
    refine Nx (Mv ?_)
    refine Vv (Gives.build (out := aI ⟨1, jZ (s.drop 1), []⟩) (Fills.one rfl rfl rfl (by simp) rfl (Fills.one rfl rfl rfl (by simp) rfl Fills.nil))) (aD Hg (h := fun wh Hh => ?_))
    refine Qn (Rb (aW (h := ?_)))
    exact ⟨_, gB Hh, by rw [ay]; rfl, Hh.kept⟩
  rw [if_neg (show ¬ s.head? = some 35 from If)] at ay
  refine Sr (Mv ?_)
  refine dY (um s 34) (h := ?_)
  refine Am ?_
  refine Qn (Cp rfl (fun Ig => ?_) (fun Ig => ?_))
  · rw [if_pos (show s.head? = some 34 from Ig)] at ay
    refine Sr (Mv ?_)
    refine bH (LM s hl (hT.keep Hb.kept)) rfl rfl (fun v' wi hv => ?_)
    obtain ⟨⟨nn, er, rfl⟩, dK⟩ := hv
    have Hi := Hb.keep dK
    refine Mv ?_
    refine Vx ?_
    refine Vx ?_
    refine Vx ?_
    refine Am ?_
    refine Am ?_
    refine Am ?_
    refine Nx (Mv ?_)
    refine Vv (Gives.build (out := aI ⟨4, 0, (q9 s).1⟩) (Fills.one rfl rfl rfl (by simp) rfl (Fills.one rfl rfl rfl (by simp) rfl Fills.nil))) (aD Hi (h := fun wj Hj => ?_))
    refine Qn (Rb (aW (h := ?_)))
    exact ⟨_, gB Hj, by rw [ay]; rfl, Hj.kept⟩
  rw [if_neg (show ¬ s.head? = some 34 from Ig)] at ay
  refine Sr (Mv ?_)
  refine dY (um s 120) (h := ?_)
  refine Am ?_
  refine Qn (Cp rfl (fun Ih => ?_) (fun Ih => ?_))
  · have hh : s.head? = some 120 := Ih
    rw [if_pos hh] at ay
    refine Sr (Vv (Gives.build (out := aJ fV) (Fills.one rfl rfl rfl (by simp) rfl Fills.nil)) (Mv ?_))
    refine bH (NT s hl hh (hT.keep Hb.kept).utf) rfl rfl (fun v' wk hv => ?_)
    obtain ⟨⟨er, rfl⟩, dK⟩ := hv
    have Hk := Hb.keep dK
    refine Mv ?_
    refine Vx ?_
    refine Vx ?_
    refine bD Hk (h := fun b129 wl Hl kb => ?_)
    refine aD Hl (h := fun wm Hm => ?_)
    refine Am ?_
    refine Nx (Vf ?_)
    refine Ld Hm ?_
    refine Vv (Gives.build (out := aI ⟨5, 0, zw s⟩) (Fills.one rfl rfl rfl (by simp) rfl (Fills.one rfl rfl rfl (by simp) rfl Fills.nil))) (aD Hm (h := fun wn Hn => ?_))
    refine Qn (Rb (aW (h := ?_)))
    exact ⟨_, gB Hn, by rw [ay]; rfl, Hn.kept⟩
  rw [if_neg (show ¬ s.head? = some 120 from Ih)] at ay
  refine aY (aA (aj (Sr (Mv ?_))))
  refine bH (BI s hl (hT.keep Hb.kept)) rfl rfl (fun v' wo hv => ?_)
  obtain ⟨⟨er, rfl⟩, dK⟩ := hv
  have Ho := Hb.keep dK
  refine Mv ?_
  refine Vx ?_
  refine Vx ?_
  refine Am ?_
  refine Am ?_
  refine Nx (Mv ?_)
  refine Vv (Gives.build (out := aI ⟨2, jZ s, []⟩) (Fills.one rfl rfl rfl (by simp) rfl (Fills.one rfl rfl rfl (by simp) rfl Fills.nil))) (aD Ho (h := fun wp Hp => ?_))
  refine Qn (aM (aW (h := ?_)))
  exact ⟨_, gB Hp, by rw [ay]; rfl, Hp.kept⟩
end
end Go.Proofs.YtolaedhdjcnijaaGreatDoor
namespace Go.Mw
open Go.RowKit
section
variable {P : Program} {r : Option Nat} {n : Nat} {ops : Array Oper} {Q : Post} {rest : List Oper} {σ : St} {w w₀ : World} {S : Nat → Prop} {rs : List HP} {put : HP → List HP} {ty : TypeId} {pos : String} {after : Array Edge}
theorem Gu {α : Type} {g : Operand} {p : Tmp} {assign body : Code} {gf : FuncId} {lb : List Value} [he : Enters P gf] (enc : α → Value) (xs : List α) (J : List α → HP) (L : List α → α → HP) (Fr0 : List HP) (H : Sep w₀ S (J [] :: Fr0) w)
    (hg : evF σ g = .func (.func gf) #[] lb.toArray) (hp : Nat.blt p n = true)
    (aaA : ∀ (l D : Nat) (ro rb : Obj) (pre : List α) (x : α) (Fr : List HP) (W : World), pre ++ [x] <+: xs → Sep w₀ S (obj l ro :: obj D (.deferred (some [])) :: J pre :: Fr) W →
      FW P (some l) n assign (OH fun τ W' => ∃ ex : List HP, Sep w₀ S (obj l ro :: obj D (.deferred (some [])) :: (ex ++ J pre :: Fr)) W' ∧
        ∀ W'', Sep w₀ S (obj l rb :: obj D (.deferred (some [])) :: (ex ++ J pre :: Fr)) W'' → FW P (some l) n body (Nb (fun W3 => Sep w₀ S (obj l rb :: obj D (.deferred (some [])) :: J (pre ++ [x]) :: Fr) W3) (fun W3 => Sep w₀ S [obj l rb, obj D (.deferred (some [])), L pre x] W3)) τ W'') (upd ⟨σ.get, []⟩ p (enc x)) W)
    (aaB : ∀ (l D : Nat) (ro rj : Obj) (W : World), Sep w₀ S (obj l ro :: obj D (.deferred (some [])) :: J [] :: Fr0) W →
      (∀ (pre : List α) (x : α) (Fr : List HP) (W : World), pre ++ [x] <+: xs → Sep w₀ S (obj l ro :: obj D (.deferred (some [])) :: J pre :: Fr) W → Jd P l [enc x] W fun b W' => if b = true then Sep w₀ S (obj l ro :: obj D (.deferred (some [])) :: J (pre ++ [x]) :: Fr) W' else Sep w₀ S [obj l rj, obj D (.deferred (some [])), L pre x] W') →
      bF P gf (.func (.yield l) #[] #[] :: lb) W fun _ W' => Sep w₀ S [obj l ro, obj D (.deferred (some [])), J xs] W' ∨ ∃ pre x, pre ++ [x] <+: xs ∧ Sep w₀ S [obj l rj, obj D (.deferred (some [])), L pre x] W')
    (aaC : ∀ (D : Nat) (W : World), Sep w₀ S [obj D (.deferred (some [])), J xs] W → Q .normal ⟨σ.get, { target := .collected D, args := #[] } :: σ.ds⟩ W)
    (aaD : ∀ (D : Nat) (W : World) (pre : List α) (x : α), pre ++ [x] <+: xs → Sep w₀ S [obj D (.deferred (some [])), L pre x] W → Q .ret ⟨σ.get, { target := .collected D, args := #[] } :: σ.ds⟩ W) :
    FW P none n (.rangeFunc g #[p] assign body) Q σ w := by
  intro a ha
  refine wpIn_rangeFunc fun fn YD => ?_
  let rec_ : LoopState → Obj := fun st => Vr st fn a.tmps #[p] assign body w.heap.size
  let recj : Obj := .loop { state := .done, pending := some .ret, fn := fn, tmps := a.tmps, params := #[p], assign := assign, body := body, defers := w.heap.size }
  obtain ⟨W1, hW1⟩ : ∃ W1, (w.alloc (.deferred (some []))).alloc (rec_ .ready) = W1 := ⟨_, rfl⟩
  have H1 : Sep w₀ S (obj (w.heap.size + 1) (rec_ .ready) :: obj w.heap.size (.deferred (some [])) :: J [] :: Fr0) W1 := by
    have h1 := (H.alloc (.deferred (some []))).alloc (rec_ .ready)
    rw [World.size_alloc] at h1
    rw [← hW1]; exact h1
  refine ⟨w.heap.size + 1, [{ target := .collected w.heap.size, args := #[] }], W1, { target := .fn (.func gf) lb.toArray, args := #[.func (.yield (w.heap.size + 1)) #[] #[]] }, W1, gf,
    #[.func (.yield (w.heap.size + 1)) #[] #[]] ++ lb.toArray, W1, ?_, ?_, fun _ _ => trivial, ?_, (fun h => by cases h), ?_⟩
  · rw [← hW1]; exact run_enterLoop_outer _ _ _ _ _
  · rw [ha.eval]
    simp only [resolve, hg, Deferred.ofValue]
    simp [evF]
  · simp [invoke, he.run]
  have acz := aaB (w.heap.size + 1) w.heap.size (rec_ .ready) recj W1 H1 (fun pre x Fr W iV HW => ?_)
  · have e : (#[.func (.yield (w.heap.size + 1)) #[] #[]] ++ lb.toArray : Array Value) = (Value.func (.yield (w.heap.size + 1)) #[] #[] :: lb).toArray := by simp
    rw [e]
    refine rH none (Calls.mono acz fun en W3 hr => ?_)
    cases en with
    | returned v =>
      rcases hr with hr | ⟨pre, x, iV, hr⟩
      · have hl := Sep.obj hr At0
        refine ⟨none, _, run_endLoop hl (by simp), ?_⟩
        refine ⟨⟨σ.get, { target := .collected w.heap.size, args := #[] } :: σ.ds⟩, ⟨ha.size, ?_, ha.get⟩, aaC w.heap.size _ ?_⟩
        · show [_] ++ a.defers = _
          rw [ha.defers]; rfl
        exact (Sep.Te hr).fI
      have hl := Sep.obj hr At0
      refine ⟨some .ret, _, run_endLoop hl (by simp), ?_⟩
      refine wpIn_ret ⟨⟨σ.get, { target := .collected w.heap.size, args := #[] } :: σ.ds⟩, ⟨ha.size, ?_, ha.get⟩, aaD w.heap.size _ pre x iV ?_⟩
      · show [_] ++ a.defers = _
        rw [ha.defers]; rfl
      exact (Sep.Te hr).fI
    | _ => exact hr.elim
  -- a round
  have hl := Sep.obj HW At0
  refine ⟨fn, _, assign, body, run_yield hl (by simp), ?_⟩
  refine roundIn_of_wpIn (F := fen none) trivial ?_
  have hb := aaA (w.heap.size + 1) w.heap.size (rec_ .ready) (rec_ .busy) pre x Fr W iV HW
  have Wn : Rep n (upd ⟨σ.get, []⟩ p (enc x)) { tmps := ((#[p].zip [enc x].toArray).foldl (fun tmps (t, a) => tmps.setIfInBounds t a) a.tmps), defers := [] } := by
    have h0 : Rep n ⟨σ.get, []⟩ { tmps := a.tmps, defers := [] } := ⟨ha.size, rfl, ha.get⟩
    have h1 := h0.put (Nat.le_of_ble_eq_true hp) (enc x)
    simpa [Act.put] using h1
  refine Go.wpIn_mono (hb _ Wn) fun en a1 W1' ⟨τ, hτ, hq⟩ => ?_
  cases en with
  | normal =>
    obtain ⟨ex, HW1, hB⟩ := hq
    have YQ := Sep.obj HW1 At0
    refine ⟨_, run_beginRound YQ rfl, ?_⟩
    refine Go.wpIn_mono (hB _ (Sep.Te HW1) a1 hτ) fun en a2 W2 ⟨τ2, hτ2, uo⟩ => ?_
    cases en with
    | normal =>
      have UR := Sep.obj (show Sep w₀ S _ W2 from uo) At0
      exact ⟨_, _, run_endRound none UR, true, rfl, by show ite (true = true) _ _; rw [if_pos rfl]; exact Sep.Te uo⟩
    | ret =>
      have UR := Sep.obj (show Sep w₀ S _ W2 from uo) At0
      exact ⟨_, _, run_endRound (some .ret) UR, false, rfl, by show ite (false = true) _ _; rw [if_neg (by decide)]; exact Sep.Te uo⟩
    | _ => exact uo.elim
  | _ => exact hq.elim
/-! Results in cells, behind ranges. -/
theorem oV {fn : Func} {tmps : Array Value} {R : Ending → World → Prop} : ∀ (ds : List Deferred) (w : World), Goes ds w (fun w' => ∃ v, (results fn tmps).run P w' = .ok v w' ∧ R (.returned v) w') → LeavesInM (fen none) 0 P fn tmps R ds .returning w
 | [], w, ⟨v, hr, h⟩ => ⟨v, hr, h⟩
 | d :: ds, w, ⟨D, ht, hh, hg⟩ => ⟨(fun e => by cases e), .inl ⟨D, _, ht, run_takeDeferred hh, oV ds _ hg⟩⟩
theorem goes_mono {R R' : World → Prop} (h : ∀ w, R w → R' w) : ∀ {ds : List Deferred} {w : World}, Goes ds w R → Goes ds w R'
 | [], _, hg => h _ hg
 | _ :: _, _, ⟨D, ht, hh, hg⟩ => ⟨D, ht, hh, goes_mono h hg⟩
def X4 (P : Program) (l : List ResultVar) (R : Value → World → Prop) : Post := fun e σ w => match e with
 | .normal | .ret => Goes σ.ds w fun w' => ∃ vs, nJ P σ w' l vs ∧ R (fB vs) w'
 | _ => False
theorem zQ {l : List ResultVar} {R : Value → World → Prop} (h : ∃ vs, nJ P σ w l vs ∧ R (fB vs) w) (hd : σ.ds = [] := by exact rfl) : X4 P l R .ret σ w := by
 show Goes σ.ds w _
 rw [hd]; exact h
theorem sw {l : List ResultVar} {R : Value → World → Prop} {D : Nat} (H : Sep w₀ S rs w) (hat : At rs (Mw.obj D (.deferred (some []))) put) (hR : ∀ w', Sep w₀ S (put (Mw.obj D (.deferred none))) w' → ∃ vs, nJ P σ w' l vs ∧ R (fB vs) w')
    (hd : σ.ds = [{ target := .collected D, args := #[] }] := by exact rfl) : X4 P l R .ret σ w := by
  show Goes σ.ds w _
  rw [hd]
  have hD := H.obj hat
  have bU := lX hD
  exact ⟨D, rfl, hD, hR _ (H.setObj hat ⟨rfl, rfl, rfl, by simp, fun k _ hS => by simp only; rw [Array.getElem?_setIfInBounds_ne (fun e => hS e.symm)]⟩ (by simp [bU]))⟩
theorem Uo {f : FuncId} {fn : Func} {c : Code} {R : Value → World → Prop} {n : Nat} {l : List ResultVar} {a0 : Value}
    (hf : P.funcs[f]? = some fn) (hb : fn.body = some c) (hn : fn.ntmps = n) (hl : fn.results = l.toArray) (hk : Nat.ble 1 n = true)
    (h : FW P none n c (X4 P l R) (upd und 0 a0) w) : bF P f [a0] w R := by
  have rG : 1 ≤ n := Nat.le_of_ble_eq_true hk
  refine (callsIn_wide (n := 0)).1 (callsIn_of_wp_marks (F := fen none) hf hb trivial (Go.wpIn_mono (h _ ⟨?_, rfl, fun i => ?_⟩) ?_))
  · simp [hn]; omega
  · have e : upd und 0 a0 = AU 0 [a0] := rfl
    rw [e, vR]
    simp only [Nat.zero_le, if_true, Nat.sub_zero]
    simp only [Array.getD_eq_getD_getElem?, List.getElem?_toArray]
    rw [Array.getElem?_append]
    split
    · simp
    rename_i LU
    simp at LU
    rw [List.getElem?_eq_none (by simp; omega)]
    rw [Array.getElem?_replicate]
    split <;> rfl
  rintro e a' w' ⟨s, hs, hq⟩
  cases e with
  | normal =>
    show LeavesInM _ _ _ _ _ _ _ _ _
    rw [hs.defers]
    exact oV _ _ (goes_mono (fun w2 ⟨vs, h1, h2⟩ => ⟨_, pF hs.get hl h1, h2⟩) hq)
  | ret =>
    show LeavesInM _ _ _ _ _ _ _ _ _
    rw [hs.defers]
    exact oV _ _ (goes_mono (fun w2 ⟨vs, h1, h2⟩ => ⟨_, pF hs.get hl h1, h2⟩) hq)
  | _ => exact hq.elim
end
end Go.Mw
namespace Go.Proofs.YtolaedhdjcnijaaGreatDoor
open Go Go.Mw Go.Lib
set_option maxRecDepth 4000
theorem sD {l : List UInt8} (h : Lib.indexByte l 32 = -1) : bT 32 l = [l] :=
 qp fun c hc e => by
  obtain ⟨k, hk⟩ := List.getElem?_of_mem hc
  exact Lib.indexByte_none h k (by rw [hk, e])
theorem AB {l : List UInt8} {o : Nat} (h : Lib.indexByte l 32 = o) : o < l.length ∧ bT 32 l = l.take o :: bT 32 (l.drop (o + 1)) := by
 obtain ⟨h1, h2⟩ := Lib.indexByte_some h
 have bU := (List.getElem?_eq_some_iff.1 h1).1
 have e : l = l.take o ++ 32 :: l.drop (o + 1) := by
  have e1 : l.drop o = 32 :: l.drop (o + 1) := by
   rw [List.drop_eq_getElem_cons bU]
   congr 1
   rw [List.getElem?_eq_getElem bU] at h1
   injection h1
  conv => lhs; rw [← List.take_append_drop o l, e1]
 refine ⟨bU, ?_⟩
 have := rV (sep := 32) (w := l.take o) (l := l.drop (o + 1)) fun c hc e => by
  obtain ⟨k, hk⟩ := List.getElem?_of_mem hc
  rw [List.getElem?_take] at hk
  split at hk
  ·exact h2 k (by omega) (by rw [hk, e])
  cases hk
 rw [← this, ← e]
section
variable {w : World}
theorem LP (l : List UInt8) : bF Tryz.prog 61 [str l, str [32]] w fun v w' => v = I (Lib.indexByte l 32) ∧ w = w' :=
 l7 (Tryz.strings_Index_one ⟨l.toArray⟩ 32 w)
theorem Oa {S : Nat → Prop} {w₀ : World} {J : List (List UInt8) → HP} {L : List (List UInt8) → List UInt8 → HP} {l D : Nat} {ro rj : Obj} {bP bS bV : Nat} {s : List UInt8} (hl : s.length ≤ 1000000)
    (HW : Sep w₀ S [obj l ro, obj D (.deferred (some [])), J [], blk bP [str [32]] 9, blk bS [str s] 9, blk bV [I 0] 3] w)
    (hy : ∀ (pre : List (List UInt8)) (x : List UInt8) (Fr : List HP) (W : World), pre ++ [x] <+: bT 32 s → Sep w₀ S (obj l ro :: obj D (.deferred (some [])) :: J pre :: Fr) W → Jd Tryz.prog l [str x] W fun b W' => if b = true then Sep w₀ S (obj l ro :: obj D (.deferred (some [])) :: J (pre ++ [x]) :: Fr) W' else Sep w₀ S [obj l rj, obj D (.deferred (some [])), L pre x] W') :
    bF Tryz.prog 200 [.func (.yield l) #[] #[], bI bP, bI bS, bI bV] w fun _ W' => Sep w₀ S [obj l ro, obj D (.deferred (some [])), J (bT 32 s)] W' ∨ ∃ pre x, pre ++ [x] <+: bT 32 s ∧ Sep w₀ S [obj l rj, obj D (.deferred (some [])), L pre x] W' := by
  have H := HW
  refine YX Tryz.func200 rfl rfl rfl rfl ?_
  refine au (Sr (Ld H ?_))
  refine Vt ?_
  refine Ve ?_
  refine Qn (Cp rfl (fun Xe => ?_) (fun Xe => ?_))
  · exact absurd Xe (by decide)
  refine Sk (au (aF (bA (fun _ : List (List UInt8) × List UInt8 => [(0, .func (.yield l) #[] #[]), (1, bI bP), (2, bI bS), (3, bI bV)]) (fun x w' => (x.1 ++ bT 32 x.2 = bT 32 s ∧ x.2.length ≤ s.length) ∧ Sep w₀ S [obj l ro, obj D (.deferred (some [])), J x.1, blk bP [str [32]] 9, blk bS [str x.2] 9, blk bV [I 0] 3] w') (fun x _ => x.2.length) ([], s) ⟨rfl, rfl, rfl, rfl, trivial⟩ ⟨⟨rfl, Nat.le_refl _⟩, H⟩ (fun x τ w7 hI => ?_))))
  obtain ⟨pre, t⟩ := x
  obtain ⟨⟨vP, zV⟩, H7⟩ := hI
  dsimp only at vP zV H7
  try simp only [cZ, like, bC, bZ]
  refine aF (Sr (Ld H7 ?_))
  refine Ld H7 ?_
  refine dY (LP t) (h := ?_)
  refine Am ?_
  refine Qn (au (Sr (Mv ?_)))
  refine Vl ?_
  refine Qn (Cp rfl (fun Ia => ?_) (fun Ia => ?_))
  · have Wy : Lib.indexByte t 32 = -1 := by have h1 := Ia; have h2 := Lib.indexByte_ge t 32; omega
    have iV : pre ++ [t] <+: bT 32 s := by rw [← vP, sD Wy]; exact List.prefix_refl _
    have lu : pre ++ [t] = bT 32 s := by rw [← vP, sD Wy]
    refine bq (aT (gX rfl (aO (aV (aj ?_)))))
    refine aB (Mv ?_)
    refine Ld H7 ?_
    refine vX rfl (hy pre t _ _ iV H7) rfl rfl (fun b8 wa JO => ?_)
    refine aP (jC (hR := ?_))
    cases b8 with
    | true => rw [if_pos rfl] at JO; rw [← lu]; exact .inl (JO.firsts (l := [_, _, _]))
    | false => rw [if_neg (by decide)] at JO; exact .inr ⟨pre, t, iV, JO⟩
  obtain ⟨o, ho⟩ : ∃ o : Nat, Lib.indexByte t 32 = o := ⟨(Lib.indexByte t 32).toNat, by have h1 := Ia; omega⟩
  obtain ⟨abw, hot⟩ := AB ho
  have iV : pre ++ [t.take o] <+: bT 32 s := by
    rw [← vP, hot]
    exact ⟨bT 32 (t.drop (o + 1)), by simp⟩
  rw [ho]
  refine Sk (Sr (Ld H7 ?_))
  refine Mv ?_
  refine Ld H7 ?_
  refine Vv (Gives.bM (c := (o : Int)) rfl rfl (by omega) (by omega)) (Vv (Gives.lq (i := o) rfl rfl (by omega)) ?_)
  refine Am ?_
  refine Qn (au (Sr (Mv ?_)))
  refine Mv ?_
  refine vX rfl (hy pre (t.take o) _ _ iV H7) rfl rfl (fun b8 wb JO => ?_)
  refine Vv (Gives.not rfl) (Qn ?_)
  refine Cd rfl (fun Ib => ?_) (fun Ib => ?_)
  · have hb : b8 = false := by have h1 := Ib; revert h1; cases b8 <;> simp
    rw [hb, if_neg (by decide)] at JO
    refine Rs (aH (aR (aH (aL (ak (hR := ?_))))))
    exact .inr ⟨pre, t.take o, iV, JO⟩
  have hb : b8 = true := by have h1 := Ib; revert h1; cases b8 <;> simp
  rw [hb, if_pos rfl] at JO
  have Ha := JO
  refine Sk (aB (Ld Ha ?_))
  refine Mv ?_
  refine Ld Ha ?_
  refine Vt ?_
  refine Vv (Gives.bM (c := ((o + 1 : Nat) : Int)) rfl rfl (by show (o : Int) + 1 = _; omega) (by omega)) (Vv (Gives.dW (i := o + 1) rfl rfl (by omega)) ?_)
  refine bW Ha (h := fun wc Hb => ?_)
  refine aP (aA ?_)
  exact aC (pre ++ [t.take o], t.drop (o + 1)) ⟨rfl, rfl, rfl, rfl, trivial⟩ ⟨⟨by dsimp only; rw [← vP, hot]; simp, by dsimp only; rw [List.length_drop]; omega⟩, Hb⟩ (by dsimp only; rw [List.length_drop]; omega)
end
end Go.Proofs.YtolaedhdjcnijaaGreatDoor
