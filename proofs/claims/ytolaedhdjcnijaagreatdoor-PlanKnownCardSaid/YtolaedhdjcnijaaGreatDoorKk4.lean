/-
 The document's literals, walked.
-/
import Derived.Test.YtolaedhdjcnijaaGreatDoorKk3
set_option linter.unusedVariables false
set_option linter.unusedSimpArgs false
namespace Go.Proofs.YtolaedhdjcnijaaGreatDoor
open Go Go.Mw Go.Lib
set_option maxRecDepth 4000

section
variable {w : World} {l : List UInt8}
theorem FX (l : List UInt8) (hl : l.length ≤ 9223372036854775807) : bF Tryz.prog 131 [str l] w fun v w' => v = .bool (validD l) ∧ Kept noB w w' := by
 have H := Sep.bB w
 refine dP Tryz.func131 rfl rfl rfl rfl ?_
 refine Sr (Am ?_)
 refine Qn (au (aF (bA (fun m : List UInt8 => [(0, str m)]) (fun m w' => (m.length ≤ l.length ∧ validD m = validD l) ∧ Sep w noB [] w') (fun m _ => m.length) l ⟨rfl, trivial⟩ ⟨⟨Nat.le_refl _, rfl⟩, H⟩ (fun m τ w3 hI => ?_))))
 obtain ⟨⟨hm1, hm2⟩, H3⟩ := hI
 try simp only [cZ, like, bC, bZ]
 refine au (Sr (Mv ?_))
 refine Vt ?_
 refine Vg ?_
 refine Qn (Cp rfl (fun oW => ?_) (fun oW => ?_))
 ·have fM : m ≠ [] := fun e => by rw [e] at oW; simp at oW
  have dJ := Ni fM
  refine Sk (aF (Sr (Mv ?_)))
  refine aN H3 (zA m (by omega)) (h := fun wa Ha _ => ?_)
  refine Mv ?_
  refine Vx ?_
  refine Vx ?_
  refine Vx ?_
  refine Am ?_
  refine Am ?_
  refine Am ?_
  refine Qn (au (Sr (Mv ?_)))
  refine Vv (Gives.not rfl) (Qn ?_)
  refine Cd rfl (fun Ia => ?_) (fun Ia => ?_)
  ·have hv : validD l = false := by rw [← hm2, dJ, if_neg (by simpa using Ia)]
   refine Sr (Am ?_)
   refine Qn (Rs (aH (aR (aH (aL (ak (hR := ?_)))))))
   exact ⟨by rw [hv]; rfl, Ha.kept⟩
  have hs : (d9 m).isSome = true := by simpa using Ia
  have rG := KO hs
  refine Sk (aB (Mv ?_))
  refine Mv ?_
  refine Vv (Gives.dW rfl rfl (by omega)) (Am ?_)
  refine aP (aA ?_)
  exact aC (m.drop (gL m).2) ⟨rfl, trivial⟩ ⟨⟨by rw [List.length_drop]; omega, by rw [← hm2, dJ, if_pos hs]⟩, Ha⟩ (by rw [List.length_drop]; omega)
 have he : m = [] := List.eq_nil_of_length_eq_zero (by omega)
 have hv : validD l = true := by rw [← hm2, he]; rfl
 refine bq (aT (aO (aV (aj (Sr (Am ?_))))))
 refine Qn (aM (ak (hR := ?_)))
 exact ⟨by rw [hv]; rfl, H3.kept⟩
def zB (c : UInt8) : Int := match fG c with | some d => d | none => -1
def vB : List UInt8 := [48, 49, 50, 51, 52, 53, 54, 55, 56, 57, 97, 98, 99, 100, 101, 102]
def Nj : List UInt8 := [48, 49, 50, 51, 52, 53, 54, 55, 56, 57, 65, 66, 67, 68, 69, 70]
theorem Tx {c : UInt8} {i : Nat} (h : i < 16) (hc : c.toNat = (vB.getD i 0).toNat ∨ c.toNat = (Nj.getD i 0).toNat) : zB c = i := by
 have key : ∀ i : Fin 16, zB (vB.getD i.val 0) = (i.val : Int) ∧ zB (Nj.getD i.val 0) = (i.val : Int) := by decide
 rcases hc with hc | hc
 ·rw [UInt8.toNat_inj.1 hc]; exact (key ⟨i, h⟩).1
 rw [UInt8.toNat_inj.1 hc]; exact (key ⟨i, h⟩).2
theorem XL {c : UInt8} (h : ∀ i, i < 16 → ¬ (c.toNat = (vB.getD i 0).toNat ∨ c.toNat = (Nj.getD i 0).toNat)) : zB c = -1 := by
 have k : ∀ i : Nat, i < 16 → c.toNat ≠ (vB.getD i 0).toNat ∧ c.toNat ≠ (Nj.getD i 0).toNat := fun i hi => ⟨fun e => h i hi (.inl e), fun e => h i hi (.inr e)⟩
 have k0 := k 0 (by omega); have k1 := k 1 (by omega); have k2 := k 2 (by omega); have k3 := k 3 (by omega); have k4 := k 4 (by omega); have k5 := k 5 (by omega); have k6 := k 6 (by omega); have k7 := k 7 (by omega); have k8 := k 8 (by omega); have k9 := k 9 (by omega)
 have ka := k 10 (by omega); have kb := k 11 (by omega); have kc := k 12 (by omega); have kd := k 13 (by omega); have ke := k 14 (by omega); have kf := k 15 (by omega)
 simp [vB, Nj] at k0 k1 k2 k3 k4 k5 k6 k7 k8 k9 ka kb kc kd ke kf
 unfold zB fG
 rw [if_neg (by omega), if_neg (by omega), if_neg (by omega)]
theorem Qk (c : UInt8) : bF Tryz.prog 266 [B c] w fun v w' => v = I (zB c) ∧ w = w' := by
 refine dP Tryz.func266 rfl rfl rfl rfl ?_
 have H := Sep.bB w
 refine Sr (Am ?_)
 refine Qn (au (Sr (Am ?_)))
 refine Qn (aF (bA (fun i : Nat => [(0, B c), (3, I i)]) (fun i w' => (i ≤ 16 ∧ ∀ j, j < i → ¬ (c.toNat = (vB.getD j 0).toNat ∨ c.toNat = (Nj.getD j 0).toNat)) ∧ w = w') (fun i _ => 16 - i) 0 ⟨rfl, rfl, trivial⟩ ⟨⟨by omega, fun j hj => by omega⟩, rfl⟩ (fun i τ w4 hI => ?_)))
 obtain ⟨⟨hi, iY⟩, rfl⟩ := hI
 try simp only [cZ, like, bC, bZ]
 refine au (Sr (Mv ?_))
 refine Vl ?_
 refine Qn (Cp rfl (fun oW => ?_) (fun oW => ?_))
 ·have bU : i < 16 := by omega
  refine Sk (au (aF (Sr (Mv ?_))))
  refine Mv ?_
  refine Vv (Gives.fF (l := vB) rfl rfl bU) (Ve ?_)
  refine Mv ?_
  refine aG (t := 12) rfl (fun Sa => ?_) (fun Sa => ?_)
  ·have hd : zB c = i := Tx bU (.inl (by omega))
   refine Of (Of (Of (Of (Pt ?_))))
   refine Qn (aQ rfl ?_)
   refine Sr (Mv ?_)
   refine Am ?_
   refine Qn (Rb (aR (aH (aL (ak (hR := ?_))))))
   exact ⟨by rw [hd]; rfl, rfl⟩
  refine On (Mv ?_)
  refine On (Mv ?_)
  refine On (Vv (Gives.fF (l := Nj) rfl rfl bU) (On ?_))
  refine Ve ?_
  refine Pf ?_
  refine Qn (Cp rfl (fun Ia => ?_) (fun Ia => ?_))
  ·have hd : zB c = i := Tx bU (.inr (by omega))
   refine Sr (Mv ?_)
   refine Am ?_
   refine Qn (Rb (aR (aH (aL (ak (hR := ?_))))))
   exact ⟨by rw [hd]; rfl, rfl⟩
  refine aY (aA (aj (aB (Mv ?_))))
  refine Vv (Gives.bM rfl rfl rfl (by omega)) (Am ?_)
  refine aP ?_
  exact aC (i + 1) ⟨rfl, rfl, trivial⟩ ⟨⟨by omega, fun j hj => by
  rcases Nat.lt_or_ge j i with h | h
  ·exact iY j h
  have : j = i := by omega
  subst this; omega⟩, rfl⟩ (by omega)
 have hd : zB c = -1 := XL fun j hj => iY j (by omega)
 refine bq (aT (aO (aV (aj (Sr (Am ?_))))))
 refine Qn (aM (ak (hR := ?_)))
 exact ⟨by rw [hd]; rfl, rfl⟩
def oD (s : List UInt8) (second : Bool) : Nat → Nat → Nat → Nat × Int
 | 0, _, n => (n, 0)
 | f + 1, i, n => match s[i]? with
  | none => (0, 3)
  | some c => match fG c with
   | none => (0, 41)
   | some d => if (i = 0 ∧ second = true ∧ 16 * n + d ≠ 13) ∨ (i = 1 ∧ ¬ (second = true ↔ (220 ≤ 16 * n + d ∧ 16 * n + d ≤ 223))) then (0, 41) else oD s second f (i + 1) (16 * n + d)
theorem Tz (s : List UInt8) (second : Bool) : oD s second 4 0 0 = jF s second := by
 unfold jF
 cases h0 : s[0]? with
 | none => simp [oD, h0]
 | some c0 =>
  cases d0 : fG c0 with
  | none => simp [oD, h0, d0]
  | some d0' =>
   cases h1 : s[1]? with
   | none => cases second <;> simp [oD, h0, d0, h1]
   | some c1 =>
    cases d1 : fG c1 with
    | none => cases second <;> simp [oD, h0, d0, h1, d1]
    | some d1' =>
     cases h2 : s[2]? with
     | none => cases second <;> simp [oD, h0, d0, h1, d1, h2]
     | some c2 =>
      cases d2 : fG c2 with
      | none => cases second <;> simp [oD, h0, d0, h1, d1, h2, d2]
      | some d2' =>
       cases h3 : s[3]? with
       | none => cases second <;> simp [oD, h0, d0, h1, d1, h2, d2, h3]
       | some c3 => cases d3 : fG c3 <;> cases second <;> simp [oD, h0, d0, h1, d1, h2, d2, h3, d3]
theorem TA {c : UInt8} (h : zB c < 0) : fG c = none := by
 unfold zB at h
 split at h
 ·omega
 assumption
theorem TB {c : UInt8} (h : ¬ zB c < 0) : ∃ d, fG c = some d ∧ zB c = d ∧ d < 16 := by
 unfold zB at h ⊢
 cases e : fG c with
 | none => rw [e] at h; exact absurd (by decide) h
 | some d =>
  refine ⟨d, rfl, rfl, ?_⟩
  have := c.toNat_lt
  unfold fG at e
  repeat' split at e
  all_goals first | (injection e with e; omega) | cases e
theorem KP (l : List UInt8) (second : Bool) (hl : l.length ≤ 9223372036854775807) : bF Tryz.prog 262 [str l, .bool second] w fun v w' => v = .tuple #[I (jF l second).1, I (jF l second).2] ∧ w = w' := by
  refine eU Tryz.func262 rfl rfl rfl rfl ?_
  have H := Sep.bB w
  rw [← Tz]
  obtain ⟨res, ay⟩ : ∃ res, oD l second 4 0 0 = res := ⟨_, rfl⟩
  rw [ay]
  refine Sr (Am ?_)
  refine Am ?_
  refine Nx (Am ?_)
  refine Qn (au (Sr (Am ?_)))
  refine Qn (aF (bA (fun x : Nat × Nat => [(0, str l), (1, .bool second), (6, I x.2), (7, I x.1)]) (fun x w' => (x.1 ≤ 4 ∧ x.2 < 16 ^ x.1 ∧ oD l second (4 - x.1) x.1 x.2 = res) ∧ w = w') (fun x _ => 4 - x.1) (0, 0) ⟨rfl, rfl, rfl, rfl, trivial⟩ ⟨⟨by simp, by simp, ay⟩, rfl⟩ (fun x τ w6 hI => ?_)))
  obtain ⟨i, m⟩ := x
  obtain ⟨⟨hi, hm, hr⟩, rfl⟩ := hI
  dsimp only at hi hm hr
  try simp only [cZ, like, bC, bZ]
  refine au (Sr (Mv ?_))
  refine Vl ?_
  refine Qn (Cp rfl (fun JI => ?_) (fun JI => ?_))
  · have bU : i < 4 := by omega
    refine Sk (au (aF (au (Sr (Mv ?_)))))
    refine Mv ?_
    refine Vt ?_
    refine Vv (Gives.geq rfl rfl) (Qn ?_)
    refine Cp rfl (fun Ia => ?_) (fun Ia => ?_)
    · have bY : ((0 : Nat), (3 : Int)) = res := by
        rw [← hr, show 4 - i = (3 - i) + 1 by omega, oD, List.getElem?_eq_none (by omega)]
      refine Sr (Am ?_)
      refine Am ?_
      refine Qn (Rs (aH (aL (aR (aH (aL (ak (hR := ?_))))))))
      exact ⟨by rw [← bY]; rfl, rfl⟩
    have jW : i < l.length := by omega
    have hg : l[i]? = some (l.getD i 0) := by rw [List.getD_eq_getElem?_getD, List.getElem?_eq_getElem jW]; rfl
    refine Sk (Sr (Mv ?_))
    refine Mv ?_
    refine Vv (Gives.fF rfl rfl (by omega)) (dY (Qk (l.getD i 0)) (h := ?_))
    refine Am ?_
    refine Qn (au (Sr (Mv ?_)))
    refine Vl ?_
    refine Qn (Cp rfl (fun Ib => ?_) (fun Ib => ?_))
    · have bY : ((0 : Nat), (41 : Int)) = res := by
        rw [← hr, show 4 - i = (3 - i) + 1 by omega, oD, hg]
        simp only [TA Ib]
      refine Sr (Am ?_)
      refine Am ?_
      refine Qn (Rs (aH (aL (aR (aH (aL (ak (hR := ?_))))))))
      exact ⟨by rw [← bY]; rfl, rfl⟩
    obtain ⟨d, YV, Cm, hd3⟩ := TB Ib
    have nO : oD l second (4 - i) i m = if (i = 0 ∧ second = true ∧ 16 * m + d ≠ 13) ∨ (i = 1 ∧ ¬ (second = true ↔ (220 ≤ 16 * m + d ∧ 16 * m + d ≤ 223))) then (0, 41) else oD l second (4 - (i + 1)) (i + 1) (16 * m + d) := by
      rw [show 4 - i = (4 - (i + 1)) + 1 by omega, oD, hg]
      simp only [YV]
    rw [hr] at nO
    have hm2 : m < 4096 := by
      have : i = 0 ∨ i = 1 ∨ i = 2 ∨ i = 3 := by omega
      rcases this with rfl | rfl | rfl | rfl <;> simp at hm <;> omega
    have WC : 16 * m + d < 16 ^ (i + 1) := by rw [Nat.pow_succ]; omega
    rw [Cm]
    refine Sk (Sr (Mv ?_))
    refine Vv (Gives.Rp rfl rfl rfl (by omega)) (Mv ?_)
    refine Vv (Gives.bM rfl rfl rfl (by omega)) (Am ?_)
    refine Nx (Mv ?_)
    refine Ve ?_
    refine Mv ?_
    refine aG (t := 29) rfl (fun Sa => ?_) (fun Sa => ?_)
    · refine On (Mv ?_)
      refine Pt ?_
      refine Mv ?_
      refine dh (t := 32) rfl (fun Sb => ?_) (fun Sb => ?_)
      · refine On (Mv ?_)
        refine On (Vn ?_)
        refine Pt ?_
        refine Mv ?_
        refine aG (t := 36) rfl (fun Sc => ?_) (fun Sc => ?_)
        · refine Of (Of (Of (Ou (Ou (Ou (Ou (Ou (Ou (Ou (Ou (Of (Pt ?_))))))))))))
          refine Qn (aQ rfl ?_)
          refine Sr (Am ?_)
          refine Am ?_
          refine Qn (Rb (aR (aH (aL (ak (hR := ?_))))))
          exact ⟨by rw [nO, if_pos (by cases second <;> simp at * <;> omega)]; rfl, rfl⟩
        refine On (Mv ?_)
        refine On (Ve ?_)
        refine On (Mv ?_)
        refine aG (t := 39) rfl (fun Sd => ?_) (fun Sd => ?_)
        · refine On (Mv ?_)
          refine On (Mv ?_)
          refine On (Vv (Gives.geq rfl rfl) (On ?_))
          refine Mv ?_
          refine aG (t := 43) rfl (fun Se => ?_) (fun Se => ?_)
          · refine On (Mv ?_)
            refine On (Vv (Gives.leq rfl rfl) (On ?_))
            refine Pt ?_
            refine On (Vv (Gives.GJ rfl rfl) (On ?_))
            refine Pt ?_
            refine Pf ?_
            refine Qn (Cd rfl (fun Ic => ?_) (fun Ic => ?_))
            · refine Sr (Am ?_)
              refine Am ?_
              refine Qn (Rb (aR (aH (aL (ak (hR := ?_))))))
              exact ⟨by rw [nO, if_pos (by cases second <;> simp at * <;> omega)]; rfl, rfl⟩
            refine aY (aA (aj (aB (Mv ?_))))
            refine Vv (Gives.bM rfl rfl rfl (by omega)) (Am ?_)
            refine aP ?_
            exact aC (i + 1, 16 * m + d) ⟨rfl, rfl, by dsimp only; rw [Int.natCast_add, Int.natCast_mul]; rfl, rfl, trivial⟩ ⟨⟨by dsimp only; omega, WC, (nO.trans (if_neg (by cases second <;> simp at * <;> omega))).symm⟩, rfl⟩ (by dsimp only; omega)
          refine Of (Of (On (Pf ?_)))
          refine On (Vv (Gives.GJ rfl rfl) (On ?_))
          refine Pt ?_
          refine Pf ?_
          refine Qn (Cd rfl (fun Id => ?_) (fun Id => ?_))
          · refine Sr (Am ?_)
            refine Am ?_
            refine Qn (Rb (aR (aH (aL (ak (hR := ?_))))))
            exact ⟨by rw [nO, if_pos (by cases second <;> simp at * <;> omega)]; rfl, rfl⟩
          refine aY (aA (aj (aB (Mv ?_))))
          refine Vv (Gives.bM rfl rfl rfl (by omega)) (Am ?_)
          refine aP ?_
          exact aC (i + 1, 16 * m + d) ⟨rfl, rfl, by dsimp only; rw [Int.natCast_add, Int.natCast_mul]; rfl, rfl, trivial⟩ ⟨⟨by dsimp only; omega, WC, (nO.trans (if_neg (by cases second <;> simp at * <;> omega))).symm⟩, rfl⟩ (by dsimp only; omega)
        refine Of (Of (Of (Of (Ou (Ou (Of (Of (On (Pf ?_)))))))))
        refine Pf ?_
        refine Qn (bg rfl ?_)
        refine aY (aA (aj (aB (Mv ?_))))
        refine Vv (Gives.bM rfl rfl rfl (by omega)) (Am ?_)
        refine aP ?_
        exact aC (i + 1, 16 * m + d) ⟨rfl, rfl, by dsimp only; rw [Int.natCast_add, Int.natCast_mul]; rfl, rfl, trivial⟩ ⟨⟨by dsimp only; omega, WC, (nO.trans (if_neg (by cases second <;> simp at * <;> omega))).symm⟩, rfl⟩ (by dsimp only; omega)
      refine Of (Of (Pf ?_))
      refine Mv ?_
      refine On (Mv ?_)
      refine On (Ve ?_)
      refine On (Mv ?_)
      refine aG (t := 39) rfl (fun Sf => ?_) (fun Sf => ?_)
      · refine On (Mv ?_)
        refine On (Mv ?_)
        refine On (Vv (Gives.geq rfl rfl) (On ?_))
        refine Mv ?_
        refine aG (t := 43) rfl (fun Sg => ?_) (fun Sg => ?_)
        · refine On (Mv ?_)
          refine On (Vv (Gives.leq rfl rfl) (On ?_))
          refine Pt ?_
          refine On (Vv (Gives.GJ rfl rfl) (On ?_))
          refine Pt ?_
          refine Pf ?_
          refine Qn (Cd rfl (fun Ie => ?_) (fun Ie => ?_))
          · refine Sr (Am ?_)
            refine Am ?_
            refine Qn (Rb (aR (aH (aL (ak (hR := ?_))))))
            exact ⟨by rw [nO, if_pos (by cases second <;> simp at * <;> omega)]; rfl, rfl⟩
          refine aY (aA (aj (aB (Mv ?_))))
          refine Vv (Gives.bM rfl rfl rfl (by omega)) (Am ?_)
          refine aP ?_
          exact aC (i + 1, 16 * m + d) ⟨rfl, rfl, by dsimp only; rw [Int.natCast_add, Int.natCast_mul]; rfl, rfl, trivial⟩ ⟨⟨by dsimp only; omega, WC, (nO.trans (if_neg (by cases second <;> simp at * <;> omega))).symm⟩, rfl⟩ (by dsimp only; omega)
        refine Of (Of (On (Pf ?_)))
        refine On (Vv (Gives.GJ rfl rfl) (On ?_))
        refine Pt ?_
        refine Pf ?_
        refine Qn (Cd rfl (fun If => ?_) (fun If => ?_))
        · refine Sr (Am ?_)
          refine Am ?_
          refine Qn (Rb (aR (aH (aL (ak (hR := ?_))))))
          exact ⟨by rw [nO, if_pos (by cases second <;> simp at * <;> omega)]; rfl, rfl⟩
        refine aY (aA (aj (aB (Mv ?_))))
        refine Vv (Gives.bM rfl rfl rfl (by omega)) (Am ?_)
        refine aP ?_
        exact aC (i + 1, 16 * m + d) ⟨rfl, rfl, by dsimp only; rw [Int.natCast_add, Int.natCast_mul]; rfl, rfl, trivial⟩ ⟨⟨by dsimp only; omega, WC, (nO.trans (if_neg (by cases second <;> simp at * <;> omega))).symm⟩, rfl⟩ (by dsimp only; omega)
      refine Of (Of (Of (Of (Ou (Ou (Of (Of (On (Pf ?_)))))))))
      refine Pf ?_
      refine Qn (bg rfl ?_)
      refine aY (aA (aj (aB (Mv ?_))))
      refine Vv (Gives.bM rfl rfl rfl (by omega)) (Am ?_)
      refine aP ?_
      exact aC (i + 1, 16 * m + d) ⟨rfl, rfl, by dsimp only; rw [Int.natCast_add, Int.natCast_mul]; rfl, rfl, trivial⟩ ⟨⟨by dsimp only; omega, WC, (nO.trans (if_neg (by cases second <;> simp at * <;> omega))).symm⟩, rfl⟩ (by dsimp only; omega)
    refine Of (Pf ?_)
    refine Mv ?_
    refine Of (Of (Pf ?_))
    refine Mv ?_
    refine On (Mv ?_)
    refine On (Ve ?_)
    refine On (Mv ?_)
    refine aG (t := 39) rfl (fun Sh => ?_) (fun Sh => ?_)
    · refine On (Mv ?_)
      refine On (Mv ?_)
      refine On (Vv (Gives.geq rfl rfl) (On ?_))
      refine Mv ?_
      refine aG (t := 43) rfl (fun Si => ?_) (fun Si => ?_)
      · refine On (Mv ?_)
        refine On (Vv (Gives.leq rfl rfl) (On ?_))
        refine Pt ?_
        refine On (Vv (Gives.GJ rfl rfl) (On ?_))
        refine Pt ?_
        refine Pf ?_
        refine Qn (Cd rfl (fun Ig => ?_) (fun Ig => ?_))
        · refine Sr (Am ?_)
          refine Am ?_
          refine Qn (Rb (aR (aH (aL (ak (hR := ?_))))))
          exact ⟨by rw [nO, if_pos (by cases second <;> simp at * <;> omega)]; rfl, rfl⟩
        refine aY (aA (aj (aB (Mv ?_))))
        refine Vv (Gives.bM rfl rfl rfl (by omega)) (Am ?_)
        refine aP ?_
        exact aC (i + 1, 16 * m + d) ⟨rfl, rfl, by dsimp only; rw [Int.natCast_add, Int.natCast_mul]; rfl, rfl, trivial⟩ ⟨⟨by dsimp only; omega, WC, (nO.trans (if_neg (by cases second <;> simp at * <;> omega))).symm⟩, rfl⟩ (by dsimp only; omega)
      refine Of (Of (On (Pf ?_)))
      refine On (Vv (Gives.GJ rfl rfl) (On ?_))
      refine Pt ?_
      refine Pf ?_
      refine Qn (Cd rfl (fun Ih => ?_) (fun Ih => ?_))
      · refine Sr (Am ?_)
        refine Am ?_
        refine Qn (Rb (aR (aH (aL (ak (hR := ?_))))))
        exact ⟨by rw [nO, if_pos (by cases second <;> simp at * <;> omega)]; rfl, rfl⟩
      refine aY (aA (aj (aB (Mv ?_))))
      refine Vv (Gives.bM rfl rfl rfl (by omega)) (Am ?_)
      refine aP ?_
      exact aC (i + 1, 16 * m + d) ⟨rfl, rfl, by dsimp only; rw [Int.natCast_add, Int.natCast_mul]; rfl, rfl, trivial⟩ ⟨⟨by dsimp only; omega, WC, (nO.trans (if_neg (by cases second <;> simp at * <;> omega))).symm⟩, rfl⟩ (by dsimp only; omega)
    refine Of (Of (Of (Of (Ou (Ou (Of (Of (On (Pf ?_)))))))))
    refine Pf ?_
    refine Qn (bg rfl ?_)
    refine aY (aA (aj (aB (Mv ?_))))
    refine Vv (Gives.bM rfl rfl rfl (by omega)) (Am ?_)
    refine aP ?_
    exact aC (i + 1, 16 * m + d) ⟨rfl, rfl, by dsimp only; rw [Int.natCast_add, Int.natCast_mul]; rfl, rfl, trivial⟩ ⟨⟨by dsimp only; omega, WC, (nO.trans (if_neg (by cases second <;> simp at * <;> omega))).symm⟩, rfl⟩ (by dsimp only; omega)
  have h4 : i = 4 := by omega
  subst h4
  have bY : (m, (0 : Int)) = res := hr
  refine bq (aT (aO (aV (aj (Sr (Mv ?_))))))
  refine Am ?_
  refine Am ?_
  refine Qn (aM (ak (hR := ?_)))
  exact ⟨by rw [← bY]; rfl, rfl⟩
end

theorem j3 (c : UInt8) : eP c = if c.toNat = 34 then [92, 34] else if c.toNat = 92 then [92, 92] else if c.toNat = 8 then [92, 98] else if c.toNat = 12 then [92, 102] else if c.toNat = 10 then [92, 110] else if c.toNat = 13 then [92, 114] else if c.toNat = 9 then [92, 116]
    else if c.toNat < 32 then [92, 117, 48, 48, jH (c.toNat / 16), jH (c.toNat % 16)] else [c] := by
  have e : ∀ k : UInt8, (c = k) = (c.toNat = k.toNat) := fun k => propext UInt8.toNat_inj.symm
  have e2 : (c < 32) = (c.toNat < 32) := propext UInt8.lt_iff_toNat_lt
  unfold eP
  simp only [e, e2]
  rfl
theorem Dr {c : UInt8} (h : c.toNat = 34 ∨ c.toNat = 92) : eP c = [92, c] := by
 rcases h with h | h
 ·have : c = 34 := UInt8.toNat_inj.1 h
  subst this; rfl
 have : c = 92 := UInt8.toNat_inj.1 h
 subst this; rfl
theorem Nk (c : UInt8) : (eP c).length ≤ 6 := by
 unfold eP
 repeat' split
 all_goals simp
theorem OQ {n : Nat} (h : n < 16) : vB.getD n 0 = jH n := by
 have key : ∀ i : Fin 16, vB.getD i.val 0 = jH i.val := by decide
 exact key ⟨n, h⟩
def ru (l : List UInt8) (i : Nat) : List UInt8 := 34 :: (l.take i).flatMap eP
theorem zC (l : List UInt8) (i : Nat) : (ru l i).length ≤ 6 * i + 1 := by
 have h := rU Nk (l.take i)
 have h2 : (l.take i).length ≤ i := by rw [List.length_take]; omega
 unfold ru
 simp only [List.length_cons]
 omega
theorem Ql {l : List UInt8} {i : Nat} (h : i < l.length) : ru l (i + 1) = ru l i ++ eP (l.getD i 0) := by
 unfold ru
 rw [List.take_add_one, List.getElem?_eq_getElem h, List.flatMap_append]
 simp [List.getD_eq_getElem?_getD, List.getElem?_eq_getElem h]
section
variable {w : World} {l : List UInt8}
def oP (l : List UInt8) : List UInt8 × Int := if validD l = true then (iR l, 0) else ([], 40)
theorem Qm (l : List UInt8) (hl : l.length ≤ 1000000) : bF Tryz.prog 133 [str l] w fun v w' => v = .tuple #[str (oP l).1, I (oP l).2] ∧ Kept noB w w' := by
 have H := Sep.bB w
 refine dP Tryz.func133 rfl rfl rfl rfl ?_
 refine Sr (Am ?_)
 refine Am ?_
 refine Qn (au (Sr (Mv ?_)))
 refine aN H (FX l (by omega)) (h := fun w5 H5 _ => ?_)
 refine Vv (Gives.not rfl) (Qn ?_)
 refine Cd rfl (fun oW => ?_) (fun oW => ?_)
 ·have hq : oP l = ([], 40) := if_neg (by simpa using oW)
  refine Sr (Am ?_)
  refine Am ?_
  refine Qn (Rs (ak (hR := ?_)))
  exact ⟨by rw [hq]; rfl, H5.kept⟩
 have hv : validD l = true := by simpa using oW
 refine Sk (Sr (aX H5 (xs := [_]) (out := [34].map B) (aU.one rfl rfl aU.nil) rfl rfl rfl (fun b wa Ha _ => ?_)))
 refine Am ?_
 refine Qn (au (Sr (Am ?_)))
 refine Qn (aF ?_)
 have Hb := Sep.VO Ha At0 (by decide)
 refine bA (fun x : Nat × Value => [(0, str l), (4, x.2), (5, I x.1)]) (fun x w' => x.1 ≤ l.length ∧ Sep w noB [gU 5 x.2 (ru l x.1)] w') (fun x _ => l.length - x.1) (0, _) ⟨rfl, rfl, rfl, trivial⟩ ⟨Nat.zero_le _, Hb⟩ (fun x τ wb hI => ?_)
 obtain ⟨i, v1⟩ := x
 obtain ⟨hi, Hb⟩ := hI
 dsimp only at hi Hb
 try simp only [cZ, like, bC, bZ]
 refine au (Sr (Mv ?_))
 refine Mv ?_
 refine Vt ?_
 refine Vl ?_
 refine Qn (Cp rfl (fun Ia => ?_) (fun Ia => ?_))
 ·have bU : i < l.length := by omega
  obtain ⟨c, hc⟩ : ∃ c, c = l.getD i 0 := ⟨_, rfl⟩
  have WE := Ql bU
  have O8 := zC l i
  rw [← hc] at WE
  have EO := c.toNat_lt
  refine Sk (fO (fun v : Value => [(0, str l), (4, v), (5, I i)]) (fun v w' => Sep w noB [gU 5 v (ru l i ++ eP c)] w') ?_ ?_)
  ·refine aF (Sr (Mv ?_))
   refine Mv ?_
   refine Vv (Gives.fF rfl rfl bU) ?_
   rw [← hc]
   refine Am ?_
   refine Qn (aF (Sr (Mv ?_)))
   refine Ve ?_
   refine Mv ?_
   refine aG (t := 27) rfl (fun Sa => ?_) (fun Sa => ?_)
   ·have hq : eP c = [92, c] := Dr (by omega)
    refine Of (Of (Pt ?_))
    refine Am ?_
    refine Qn (aQ rfl ?_)
    refine aB (Mv ?_)
    refine Mv ?_
    refine aX Hb (xs := [_, .tmp 32]) (out := [92, c].map B) (aU.one rfl rfl (aU.one rfl rfl aU.nil)) rfl rfl rfl (fun b wc Hc _ => ?_)
    refine fq Hc (news := [92, c]) At0 (by simp; omega) (h := fun v2 wd Hd => ?_)
    refine Am ?_
    refine aP (aA (aA ?_))
    exact aS _ ⟨rfl, rfl, rfl, trivial⟩ (by rw [hq]; exact Hd)
   refine On (Mv ?_)
   refine On (Ve ?_)
   refine Pf ?_
   refine Am ?_
   refine Qn (Cp rfl (fun Ib => ?_) (fun Ib => ?_))
   ·have hq : eP c = [92, c] := Dr (by omega)
    refine aB (Mv ?_)
    refine Mv ?_
    refine aX Hb (xs := [_, .tmp 32]) (out := [92, c].map B) (aU.one rfl rfl (aU.one rfl rfl aU.nil)) rfl rfl rfl (fun b we He _ => ?_)
    refine fq He (news := [92, c]) At0 (by simp; omega) (h := fun v2 wf Hf => ?_)
    refine Am ?_
    refine aP (aA (aA ?_))
    exact aS _ ⟨rfl, rfl, rfl, trivial⟩ (by rw [hq]; exact Hf)
   refine Sr (Mv ?_)
   refine Ve ?_
   refine Am ?_
   refine Qn (Cp rfl (fun Ic => ?_) (fun Ic => ?_))
   ·have hq : eP c = [92, 98] := by rw [j3, if_neg (by omega), if_neg (by omega), if_pos (by omega)]
    refine aB (Mv ?_)
    refine aX Hb (xs := [_, _]) (out := [92, 98].map B) (aU.one rfl rfl (aU.one rfl rfl aU.nil)) rfl rfl rfl (fun b wg Hg _ => ?_)
    refine fq Hg (news := [92, 98]) At0 (by simp; omega) (h := fun v2 wh Hh => ?_)
    refine Am ?_
    refine aP (aA (aA ?_))
    exact aS _ ⟨rfl, rfl, rfl, trivial⟩ (by rw [hq]; exact Hh)
   refine Sr (Mv ?_)
   refine Ve ?_
   refine Am ?_
   refine Qn (Cp rfl (fun Id => ?_) (fun Id => ?_))
   ·have hq : eP c = [92, 102] := by rw [j3, if_neg (by omega), if_neg (by omega), if_neg (by omega), if_pos (by omega)]
    refine aB (Mv ?_)
    refine aX Hb (xs := [_, _]) (out := [92, 102].map B) (aU.one rfl rfl (aU.one rfl rfl aU.nil)) rfl rfl rfl (fun b wi Hi _ => ?_)
    refine fq Hi (news := [92, 102]) At0 (by simp; omega) (h := fun v2 wj Hj => ?_)
    refine Am ?_
    refine aP (aA (aA ?_))
    exact aS _ ⟨rfl, rfl, rfl, trivial⟩ (by rw [hq]; exact Hj)
   refine Sr (Mv ?_)
   refine Ve ?_
   refine Am ?_
   refine Qn (Cp rfl (fun Ie => ?_) (fun Ie => ?_))
   ·have hq : eP c = [92, 110] := by rw [j3, if_neg (by omega), if_neg (by omega), if_neg (by omega), if_neg (by omega), if_pos (by omega)]
    refine aB (Mv ?_)
    refine aX Hb (xs := [_, _]) (out := [92, 110].map B) (aU.one rfl rfl (aU.one rfl rfl aU.nil)) rfl rfl rfl (fun b wk Hk _ => ?_)
    refine fq Hk (news := [92, 110]) At0 (by simp; omega) (h := fun v2 wl Hl => ?_)
    refine Am ?_
    refine aP (aA (aA ?_))
    exact aS _ ⟨rfl, rfl, rfl, trivial⟩ (by rw [hq]; exact Hl)
   refine Sr (Mv ?_)
   refine Ve ?_
   refine Am ?_
   refine Qn (Cp rfl (fun If => ?_) (fun If => ?_))
   ·have hq : eP c = [92, 114] := by rw [j3, if_neg (by omega), if_neg (by omega), if_neg (by omega), if_neg (by omega), if_neg (by omega), if_pos (by omega)]
    refine aB (Mv ?_)
    refine aX Hb (xs := [_, _]) (out := [92, 114].map B) (aU.one rfl rfl (aU.one rfl rfl aU.nil)) rfl rfl rfl (fun b wm Hm _ => ?_)
    refine fq Hm (news := [92, 114]) At0 (by simp; omega) (h := fun v2 wn Hn => ?_)
    refine Am ?_
    refine aP (aA (aA ?_))
    exact aS _ ⟨rfl, rfl, rfl, trivial⟩ (by rw [hq]; exact Hn)
   refine Sr (Mv ?_)
   refine Ve ?_
   refine Am ?_
   refine Qn (Cp rfl (fun Ig => ?_) (fun Ig => ?_))
   ·have hq : eP c = [92, 116] := by rw [j3, if_neg (by omega), if_neg (by omega), if_neg (by omega), if_neg (by omega), if_neg (by omega), if_neg (by omega), if_pos (by omega)]
    refine aB (Mv ?_)
    refine aX Hb (xs := [_, _]) (out := [92, 116].map B) (aU.one rfl rfl (aU.one rfl rfl aU.nil)) rfl rfl rfl (fun b wo Ho _ => ?_)
    refine fq Ho (news := [92, 116]) At0 (by simp; omega) (h := fun v2 wp Hp => ?_)
    refine Am ?_
    refine aP (aA (aA ?_))
    exact aS _ ⟨rfl, rfl, rfl, trivial⟩ (by rw [hq]; exact Hp)
   refine Sr (Mv ?_)
   refine Vl ?_
   refine Am ?_
   refine Qn (Cp rfl (fun Ih => ?_) (fun Ih => ?_))
   ·have hq : eP c = [92, 117, 48, 48, vB.getD (c.toNat / 16) 0, vB.getD (c.toNat % 16) 0] := by rw [j3, if_neg (by omega), if_neg (by omega), if_neg (by omega), if_neg (by omega), if_neg (by omega), if_neg (by omega), if_neg (by omega), if_pos (by omega), OQ (by omega), OQ (by omega)]
    refine bG rfl Hb (h := fun Sb wq Hq => ?_)
    refine Gm Sb 0 ?_
    refine Gm Sb 1 ?_
    refine Gp Sb 2 rfl rfl (fun _ => (Gives.XK (b := 16) rfl rfl (by omega) (by omega))) (Gp Sb 3 rfl rfl (fun _ => (Gives.fF (l := vB) rfl rfl (show c.toNat / 16 < 16 by omega))) ?_)
    refine Gm Sb 4 ?_
    refine Gp Sb 5 rfl rfl (fun _ => (Gives.oO (b := 16) rfl rfl (by omega))) (Gp Sb 6 rfl rfl (fun _ => (Gives.fF (l := vB) rfl rfl (show c.toNat % 16 < 16 by omega))) ?_)
    refine eD Sb 7 [(0, true)] Hq (xs := [_, _, _, _, .tmp 71, .tmp 74]) (out := [92, 117, 48, 48, vB.getD (c.toNat / 16) 0, vB.getD (c.toNat % 16) 0].map B) (aU.one rfl rfl (aU.one rfl rfl (aU.one rfl rfl (aU.one rfl rfl (aU.one rfl rfl (aU.one rfl rfl aU.nil)))))) (h := fun b wr Hr => ⟨av (aK), ?_⟩)
    refine FU Sb 8 [] Hr (news := [92, 117, 48, 48, vB.getD (c.toNat / 16) 0, vB.getD (c.toNat % 16) 0]) At0 (by simp; omega) (h := fun v2 ws Hs => ⟨aK, ?_⟩)
    refine rX Sb 9 [] (h := ⟨aK, ?_⟩)
    refine bR Sb (by kernel_rfl) ?_
    refine aA (aA ?_)
    exact aS _ ⟨rfl, rfl, rfl, trivial⟩ (by rw [hq]; exact Hs)
   have hq : eP c = [c] := by rw [j3, if_neg (by omega), if_neg (by omega), if_neg (by omega), if_neg (by omega), if_neg (by omega), if_neg (by omega), if_neg (by omega), if_neg (by omega)]
   refine aB (Mv ?_)
   refine Mv ?_
   refine aX Hb (xs := [.tmp 21]) (out := [c].map B) (aU.one rfl rfl aU.nil) rfl rfl rfl (fun b wt Ht _ => ?_)
   refine fq Ht (news := [c]) At0 (by simp; omega) (h := fun v2 wu Hu => ?_)
   refine Am ?_
   refine aP (aA (aA ?_))
   exact aS _ ⟨rfl, rfl, rfl, trivial⟩ (by rw [hq]; exact Hu)
  intro v3 τ wv Hv
  simp only [cZ, like, bC]
  refine aB (Mv ?_)
  refine Vv (Gives.bM rfl rfl rfl (by omega)) (Am ?_)
  refine aP ?_
  exact aC (i + 1, v3) ⟨rfl, rfl, rfl, trivial⟩ ⟨by dsimp only; omega, by dsimp only; rw [WE]; exact Hv⟩ (by dsimp only; omega)
 have jW : i = l.length := by omega
 refine bq (aT (aO (aV (aj (Sr (Mv ?_))))))
 refine aX Hb (xs := [_]) (out := [34].map B) (aU.one rfl rfl aU.nil) rfl rfl rfl (fun b2 ww Hw _ => ?_)
 have O8 := zC l i
 refine fq Hw (news := [34]) At0 (by simp; omega) (h := fun v2 wx Hx => ?_)
 refine Vv (Gives.Jg Hx At0 rfl) ?_
 have bY : ru l i ++ [34] = iR l := by
  rw [jW]; unfold ru iR; rw [List.take_length]; rfl
 rw [bY]
 have hq : oP l = (iR l, 0) := if_pos hv
 refine Am ?_
 refine Am ?_
 refine Qn (aM (ak (hR := ?_)))
 exact ⟨by rw [hq]; rfl, Hx.kept⟩
end

theorem rY {c : UInt8} {d : Nat} (e : fG c = some d) : d < 16 := by
 have := c.toNat_lt
 unfold fG at e
 repeat' split at e
 all_goals first | (injection e with e; omega) | cases e
theorem KQ {s : List UInt8} {second : Bool} (h : (jF s second).2 = 0) : (jF s second).1 ≤ 65535 ∧ (second = true ↔ (56320 ≤ (jF s second).1 ∧ (jF s second).1 ≤ 57343)) := by
 unfold jF at h ⊢
 cases h0 : s[0]? with
 | none => simp [h0] at h
 | some c0 => cases d0 : fG c0 with
  | none => simp [h0, d0] at h
  | some a => cases h1 : s[1]? with
   | none => cases second <;> simp [h0, d0, h1] at h <;> (split at h <;> simp at h)
   | some c1 => cases d1 : fG c1 with
    | none => cases second <;> simp [h0, d0, h1, d1] at h <;> (split at h <;> simp at h)
    | some b => cases h2 : s[2]? with
     | none => cases second <;> simp [h0, d0, h1, d1, h2] at h <;> (repeat' split at h) <;> simp at h
     | some c2 => cases d2 : fG c2 with
      | none => cases second <;> simp [h0, d0, h1, d1, h2, d2] at h <;> (repeat' split at h) <;> simp at h
      | some c => cases h3 : s[3]? with
       | none => cases second <;> simp [h0, d0, h1, d1, h2, d2, h3] at h <;> (repeat' split at h) <;> simp at h
       | some c3 => cases d3 : fG c3 with
        | none => cases second <;> simp [h0, d0, h1, d1, h2, d2, h3, d3] at h <;> (repeat' split at h) <;> simp at h
        | some d =>
         have k0 := rY d0
         have k1 := rY d1
         have k2 := rY d2
         have k3 := rY d3
         cases second
         ·simp only [h0, d0, h1, d1, h2, d2, h3, d3] at h ⊢
          rw [if_neg (by simp)] at h ⊢
          split at h
          ·simp at h
          rename_i hs
          rw [if_neg hs]
          simp at hs ⊢
          omega
         simp only [h0, d0, h1, d1, h2, d2, h3, d3] at h ⊢
         split at h
         ·simp at h
         rename_i Cq
         rw [if_neg Cq]
         split at h
         ·simp at h
         rename_i hs
         rw [if_neg hs]
         simp at hs Cq ⊢
         omega
def shS : List UInt8 := [34, 92, 47, 98, 102, 110, 114, 116]
def shV : List UInt8 := [34, 92, 47, 8, 12, 10, 13, 9]
theorem short_at {c : UInt8} {i : Nat} (h : i < 8) (hc : c.toNat = (shS.getD i 0).toNat) : q8 c = some (shV.getD i 0) ∧ (shV.take (i + 1)).drop i = [shV.getD i 0] := by
 have key : ∀ i : Fin 8, q8 (shS.getD i.val 0) = some (shV.getD i.val 0) ∧ (shV.take (i.val + 1)).drop i.val = [shV.getD i.val 0] := by decide
 rw [UInt8.toNat_inj.1 hc]; exact key ⟨i, h⟩
theorem TD {c : UInt8} (h : ∀ i, i < 8 → c.toNat ≠ (shS.getD i 0).toNat) : q8 c = none := by
 have e : ∀ k : UInt8, (c = k) = (c.toNat = k.toNat) := fun k => propext UInt8.toNat_inj.symm
 have k0 := h 0 (by omega); have k1 := h 1 (by omega); have k2 := h 2 (by omega); have k3 := h 3 (by omega); have k4 := h 4 (by omega); have k5 := h 5 (by omega); have k6 := h 6 (by omega); have k7 := h 7 (by omega)
 simp [shS] at k0 k1 k2 k3 k4 k5 k6 k7
 unfold q8
 simp only [e]
 simp [k0, k1, k2, k3, k4, k5, k6, k7]
theorem Jj {n : Int} (h : ¬ (n < 0 ∨ 1114111 < n ∨ (55296 ≤ n ∧ n ≤ 57343))) : (u7 n).getD [] = encodeRune n := by
 unfold u7
 rw [if_neg h]; rfl
section
variable {w : World} {l : List UInt8}
theorem Nl (l : List UInt8) (hl : l.length ≤ 9223372036854775807) : bF Tryz.prog 245 [str l] w fun v w' => v = .tuple #[str (jh l).1, I (jh l).2.1, I (jh l).2.2] ∧ Kept noB w w' := by
  have H := Sep.bB w
  refine dP Tryz.func245 rfl rfl rfl rfl ?_
  refine Sr (Am ?_)
  refine Am ?_
  refine Am ?_
  refine Qn (au (Sr (Mv ?_)))
  refine Vt ?_
  refine Vl ?_
  refine Qn (Cp rfl (fun oW => ?_) (fun oW => ?_))
  · have ay : jh l = ([], 0, 3) := by unfold jh; rw [List.getElem?_eq_none (by omega)]
    refine Sr (Am ?_)
    refine Am ?_
    refine Am ?_
    refine Qn (Rs (ak (hR := ?_)))
    exact ⟨by rw [ay]; rfl, H.kept⟩
  obtain ⟨c, hc⟩ : ∃ c, c = l.getD 1 0 := ⟨_, rfl⟩
  have hg : l[1]? = some c := by rw [hc, List.getD_eq_getElem?_getD, List.getElem?_eq_getElem (by omega)]; rfl
  refine Sk (au (Sr (Am ?_)))
  refine Qn (aF (bA (fun i : Nat => [(0, str l), (5, I i)]) (fun i w' => (i ≤ 8 ∧ ∀ j, j < i → c.toNat ≠ (shS.getD j 0).toNat) ∧ Sep w noB [] w') (fun i _ => 8 - i) 0 ⟨rfl, rfl, trivial⟩ ⟨⟨by omega, fun j hj => by omega⟩, H⟩ (fun i τ wa hI => ?_)))
  obtain ⟨⟨hi, iY⟩, Ha⟩ := hI
  try simp only [cZ, like, bC, bZ]
  refine au (Sr (Mv ?_))
  refine Vl ?_
  refine Qn (Cp rfl (fun Ia => ?_) (fun Ia => ?_))
  · have bU : i < 8 := by omega
    refine Sk (au (aF (au (bG rfl Ha (h := fun Sa wb Hb => ?_)))))
    refine Gm Sa 0 ?_
    refine Gp Sa 1 rfl rfl (fun _ => (Gives.fF (i := 1) rfl rfl (by omega))) ?_
    rw [← hc]
    refine Gm Sa 2 ?_
    refine Gp Sa 3 rfl rfl (fun _ => (Gives.fF (l := shS) rfl rfl bU)) (Gp Sa 4 rfl rfl (fun _ => (Gives.eql rfl rfl)) ?_)
    refine bR Sa (by kernel_rfl) ?_
    refine aj (Cp rfl (fun Ib => ?_) (fun Ib => ?_))
    · obtain ⟨hs1, Pd⟩ := short_at (c := c) bU (by omega)
      have ay : jh l = ([shV.getD i 0], 2, 0) := by unfold jh; rw [hg]; simp only [hs1]
      refine Sr (Mv ?_)
      refine Mv ?_
      refine Vv (Gives.bM rfl rfl rfl (by omega)) (Vv (Gives.fE (l := shV) (m := i + 1) rfl rfl rfl (by omega) (show i + 1 ≤ 8 by omega)) ?_)
      rw [Pd]
      refine Am ?_
      refine Am ?_
      refine Am ?_
      refine Qn (Rb (aR (aH (aL (ak (hR := ?_))))))
      exact ⟨by rw [ay]; rfl, Hb.kept⟩
    refine aY (aA (aj (aB (Mv ?_))))
    refine Vv (Gives.bM rfl rfl rfl (by omega)) (Am ?_)
    refine aP ?_
    exact aC (i + 1) ⟨rfl, rfl, trivial⟩ ⟨⟨by omega, fun j hj => by
    rcases Nat.lt_or_ge j i with h | h
    · exact iY j h
    have : j = i := by omega
    subst this; omega⟩, Hb⟩ (by omega)
  have hsn : q8 c = none := TD fun j hj => iY j (by omega)
  refine bq (aT (aO (aV (aj (au (Sr (Mv ?_)))))))
  refine Vv (Gives.fF (i := 1) rfl rfl (by omega)) ?_
  rw [← hc]
  refine Vn ?_
  refine Qn (Cp rfl (fun Ic => ?_) (fun Ic => ?_))
  · have ay : jh l = ([], 0, 41) := by unfold jh; rw [hg]; simp only [hsn]; rw [if_pos (fun e => by rw [e] at Ic; exact Ic rfl)]
    refine Sr (Am ?_)
    refine Am ?_
    refine Am ?_
    refine Qn (Rs (ak (hR := ?_)))
    exact ⟨by rw [ay]; rfl, Ha.kept⟩
  have hu : c = 117 := UInt8.toNat_inj.1 (by show c.toNat = 117; omega)
  obtain ⟨h, hh⟩ : ∃ h, h = jF (l.drop 2) false := ⟨_, rfl⟩
  have Xp : jh l = if h.2 ≠ 0 then ([], 0, h.2) else if h.1 < 55296 ∨ 56319 < h.1 then (encodeRune h.1, 6, 0) else BQ l h.1 := by
    unfold jh; rw [hg]; simp only [hsn]; rw [if_neg (by simpa using hu), ← hh]
  refine Sk (Sr (Mv ?_))
  refine Vv (Gives.dW (i := 2) rfl rfl (by omega)) (dY (KP (l.drop 2) false (by rw [List.length_drop]; omega)) (h := ?_))
  rw [← hh]
  refine Mv ?_
  refine Vx ?_
  refine Vx ?_
  refine Am ?_
  refine Am ?_
  refine Qn (au (Sr (Mv ?_)))
  refine Vn ?_
  refine Qn (Cp rfl (fun Id => ?_) (fun Id => ?_))
  · have ay : jh l = ([], 0, h.2) := by rw [Xp, if_pos Id]
    refine Sr (Mv ?_)
    refine Am ?_
    refine Am ?_
    refine Am ?_
    refine Qn (Rs (ak (hR := ?_)))
    exact ⟨by rw [ay]; rfl, Ha.kept⟩
  have h20 : h.2 = 0 := by simpa using Id
  rw [if_neg (by simpa using h20)] at Xp
  have hv := KQ (s := l.drop 2) (second := false) (by rw [← hh]; exact h20)
  rw [← hh] at hv
  simp at hv
  refine Sk (au (Sr (Mv ?_)))
  refine Vl ?_
  refine Mv ?_
  refine aG (t := 45) rfl (fun Sb => ?_) (fun Sb => ?_)
  · have ay : jh l = (encodeRune h.1, 6, 0) := by rw [Xp, if_pos (by omega)]
    have hpe : (u7 (h.1 : Int)).getD [] = encodeRune h.1 := Jj (by omega)
    refine Of (Of (Pt ?_))
    refine Qn (aQ rfl ?_)
    refine Sr (Mv ?_)
    refine Vv (Gives.xq rfl (by omega)) (aN Ha (Jh h.1 (by omega)) (h := fun wc Hc _ => ?_))
    rw [hpe]
    refine Mv ?_
    refine Vx ?_
    refine Vx ?_
    refine Am ?_
    refine Am ?_
    refine Nx (Mv ?_)
    refine Am ?_
    refine Am ?_
    refine Am ?_
    refine Qn (Rs (ak (hR := ?_)))
    exact ⟨by rw [ay]; rfl, Hc.kept⟩
  refine On (Mv ?_)
  refine On (Vg ?_)
  refine Pf ?_
  refine Qn (Cp rfl (fun Ie => ?_) (fun Ie => ?_))
  · have ay : jh l = (encodeRune h.1, 6, 0) := by rw [Xp, if_pos (by omega)]
    have hpe : (u7 (h.1 : Int)).getD [] = encodeRune h.1 := Jj (by omega)
    refine Sr (Mv ?_)
    refine Vv (Gives.xq rfl (by omega)) (aN Ha (Jh h.1 (by omega)) (h := fun wd Hd _ => ?_))
    rw [hpe]
    refine Mv ?_
    refine Vx ?_
    refine Vx ?_
    refine Am ?_
    refine Am ?_
    refine Nx (Mv ?_)
    refine Am ?_
    refine Am ?_
    refine Am ?_
    refine Qn (Rs (ak (hR := ?_)))
    exact ⟨by rw [ay]; rfl, Hd.kept⟩
  have WE : 55296 ≤ h.1 ∧ h.1 ≤ 56319 := by omega
  rw [if_neg (by omega)] at Xp
  refine Sk (au (Sr (Am ?_)))
  refine Qn (aF (bA (fun i : Nat => [(0, str l), (6, I h.1), (10, I i)]) (fun i w' => (6 ≤ i ∧ i ≤ 8 ∧ (7 ≤ i → l[6]? = some 92) ∧ (8 ≤ i → l[7]? = some 117)) ∧ Sep w noB [] w') (fun i _ => 8 - i) 6 ⟨rfl, rfl, rfl, trivial⟩ ⟨⟨by omega, by omega, fun h => by omega, fun h => by omega⟩, Ha⟩ (fun i τ we hI => ?_)))
  obtain ⟨⟨hi6, hi8, hg6, hg7⟩, He⟩ := hI
  try simp only [cZ, like, bC]
  refine au (Sr (Mv ?_))
  refine Vl ?_
  refine Qn (Cp rfl (fun If => ?_) (fun If => ?_))
  · have bU : i = 6 ∨ i = 7 := by omega
    refine Sk (au (aF (au (Sr (Mv ?_)))))
    refine Mv ?_
    refine Vt ?_
    refine Vv (Gives.geq rfl rfl) (Qn ?_)
    refine Cp rfl (fun Ig => ?_) (fun Ig => ?_)
    · have ay : jh l = ([], 0, 3) := by
        rw [Xp]; unfold BQ
        rcases bU with rfl | rfl
        · rw [List.getElem?_eq_none (by omega)]
        rw [hg6 (by omega)]; simp; rw [List.getElem?_eq_none (by omega)]
      refine Sr (Am ?_)
      refine Am ?_
      refine Am ?_
      refine Qn (Rs (aH (aL (aR (aH (aL (ak (hR := ?_))))))))
      exact ⟨by rw [ay]; rfl, He.kept⟩
    have jW : i < l.length := by omega
    have Ee : l[i]? = some (l.getD i 0) := by rw [List.getD_eq_getElem?_getD, List.getElem?_eq_getElem jW]; rfl
    refine Sk (au (bG rfl He (h := fun Sc wf Hf => ?_)))
    refine Gm Sc 0 ?_
    refine Gm Sc 1 ?_
    refine Gp Sc 2 rfl rfl (fun _ => (Gives.fF rfl rfl (by omega))) (Gm Sc 3 ?_)
    refine Gp Sc 4 rfl rfl (fun _ => (Gives.yh (c := ((i - 6 : Nat) : Int)) rfl rfl (by omega) (by omega))) (Gp Sc 5 rfl rfl (fun _ => (Gives.fF (l := [92, 117]) rfl rfl (show i - 6 < 2 by omega))) ?_)
    refine Gp Sc 6 rfl rfl (fun _ => (Gives.neq rfl rfl)) (bR Sc (by kernel_rfl) ?_)
    refine aj (Cp rfl (fun Ih => ?_) (fun Ih => ?_))
    · have ay : jh l = ([], 0, 41) := by
        rw [Xp]; unfold BQ
        rcases bU with rfl | rfl
        · rw [Ee]; dsimp only
          rw [if_pos (fun e => by rw [e] at Ih; exact Ih rfl)]
        rw [hg6 (by omega)]; dsimp only
        rw [if_neg (by simp), Ee]; dsimp only
        rw [if_pos (fun e => by rw [e] at Ih; exact Ih rfl)]
      refine Sr (Am ?_)
      refine Am ?_
      refine Am ?_
      refine Qn (Rb (aR (aH (aL (ak (hR := ?_))))))
      exact ⟨by rw [ay]; rfl, Hf.kept⟩
    have hci : (l.getD i 0).toNat = ([92, 117].getD (i - 6) 0 : UInt8).toNat := by omega
    have Eo : (7 ≤ i + 1 → l[6]? = some 92) ∧ (8 ≤ i + 1 → l[7]? = some 117) := by
      rcases bU with rfl | rfl
      · exact ⟨fun _ => by rw [Ee]; exact congrArg some (UInt8.toNat_inj.1 hci), fun h => by omega⟩
      exact ⟨fun _ => hg6 (by omega), fun _ => by rw [Ee]; exact congrArg some (UInt8.toNat_inj.1 hci)⟩
    refine aY (aA (aj (aB (Mv ?_))))
    refine Vv (Gives.bM rfl rfl rfl (by omega)) (Am ?_)
    refine aP ?_
    exact aC (i + 1) ⟨rfl, rfl, rfl, trivial⟩ ⟨⟨by omega, by omega, Eo.1, Eo.2⟩, Hf⟩ (by omega)
  have h8 : i = 8 := by omega
  subst h8
  have hl8 : 8 ≤ l.length := by
    have := hg7 (by omega)
    have := (List.getElem?_eq_some_iff.1 this).1
    omega
  obtain ⟨k, hk⟩ : ∃ k, k = jF (l.drop 8) true := ⟨_, rfl⟩
  have het : jh l = if k.2 ≠ 0 then ([], 0, k.2) else (encodeRune (65536 + 1024 * ((h.1 : Int) - 55296) + k.1 - 56320), 12, 0) := by
    rw [Xp]; unfold BQ
    rw [hg6 (by omega), hg7 (by omega), ← hk]
    rfl
  refine bq (aT (aO (aV (aj (Sr (Mv ?_))))))
  refine Vv (Gives.dW (i := 8) rfl rfl (by omega)) (dY (KP (l.drop 8) true (by rw [List.length_drop]; omega)) (h := ?_))
  rw [← hk]
  refine Mv ?_
  refine Vx ?_
  refine Vx ?_
  refine Am ?_
  refine Am ?_
  refine Qn (au (Sr (Mv ?_)))
  refine Vn ?_
  refine Qn (Cp rfl (fun Ii => ?_) (fun Ii => ?_))
  · have ay : jh l = ([], 0, k.2) := by rw [het, if_pos Ii]
    refine Sr (Mv ?_)
    refine Am ?_
    refine Am ?_
    refine Am ?_
    refine Qn (Rs (ak (hR := ?_)))
    exact ⟨by rw [ay]; rfl, He.kept⟩
  have ka : k.2 = 0 := by simpa using Ii
  have kv := KQ (s := l.drop 8) (second := true) (by rw [← hk]; exact ka)
  rw [← hk] at kv
  simp at kv
  have ay : jh l = (encodeRune (65536 + 1024 * ((h.1 : Int) - 55296) + k.1 - 56320), 12, 0) := by rw [het, if_neg (by simpa using ka)]
  refine Sk (Sr (Mv ?_))
  refine Vv (Gives.yh rfl rfl rfl (by omega)) (Vv (Gives.Rp rfl rfl rfl (by omega)) ?_)
  refine Vv (Gives.bM rfl rfl rfl (by omega)) (Mv ?_)
  refine Vv (Gives.bM rfl rfl rfl (by omega)) (Vv (Gives.yh rfl rfl rfl (by omega)) ?_)
  refine Vv (Gives.xq rfl (by omega)) (aN He (Jh (65536 + 1024 * ((h.1 : Int) - 55296) + k.1 - 56320) (by omega)) (h := fun wg Hg _ => ?_))
  rw [Jj (by omega)]
  refine Mv ?_
  refine Vx ?_
  refine Vx ?_
  refine Am ?_
  refine Am ?_
  refine Nx (Mv ?_)
  refine Am ?_
  refine Am ?_
  refine Am ?_
  refine Qn (aM (ak (hR := ?_)))
  exact ⟨by rw [ay]; rfl, Hg.kept⟩
end

def KR (s : List UInt8) (n : Nat) (c : UInt8) : List UInt8 := s ++ List.replicate (n - s.length) c
def rz (s : List UInt8) (n : Nat) : Prop := okL (KR s n 128) n ∨ okL (KR s n 191) n
theorem KS {l : List UInt8} {n : Nat} (h1 : 1 ≤ n) (h4 : n ≤ 4) (hl : n ≤ l.length) : ((d9 l).isSome = true ∧ (gL l).2 = n) ↔ okL l n := by
 constructor
 ·rintro ⟨h, rfl⟩
  exact (qN (r := (gL l).1) (n := (gL l).2) (Dq h)).2.2.2.1
 intro h
 have := nV h1 h4 hl h
 unfold gL
 rw [this]; exact ⟨rfl, rfl⟩
theorem zD {s : List UInt8} {n : Nat} {c : UInt8} (h : s.length ≤ n) : (KR s n c).length = n := by
 unfold KR; rw [List.length_append, List.length_replicate]; omega
theorem FY {a : UInt8} {t : List UInt8} (h : d9 (a :: t) = none) : 128 ≤ a.toNat := by
 refine Classical.byContradiction fun hn => ?_
 rw [Dj (by omega)] at h; cases h
theorem tL {s : List UInt8} (fM : s ≠ []) (hs : d9 s = none) : jL s = true ↔ ∃ n, s.length < n ∧ n ≤ 4 ∧ rz s n := by
 have e0 : (128 : UInt8).toNat = 128 := rfl
 have e1 : (191 : UInt8).toNat = 191 := rfl
 match s, fM, hs with
 | [a], _, hs =>
  have ha := FY hs
  have ha2 := a.toNat_lt
  have h2 : rz [a] 2 ↔ 194 ≤ a.toNat ∧ a.toNat ≤ 223 := by
   show okL [a, 128] 2 ∨ okL [a, 191] 2 ↔ _
   rw [ok2, ok2, e0, e1]; omega
  have h3 : rz [a] 3 ↔ 224 ≤ a.toNat ∧ a.toNat ≤ 239 := by
   show okL [a, 128, 128] 3 ∨ okL [a, 191, 191] 3 ↔ _
   rw [ok3, ok3, e0, e1]; omega
  have h4 : rz [a] 4 ↔ 240 ≤ a.toNat ∧ a.toNat ≤ 244 := by
   show okL [a, 128, 128, 128] 4 ∨ okL [a, 191, 191, 191] 4 ↔ _
   rw [ok4, ok4, e0, e1]; omega
  have key : jL [a] = true ↔ rz [a] 2 ∨ rz [a] 3 ∨ rz [a] 4 := by
   rw [h2, h3, h4]
   simp only [jL, decide_eq_true_eq]
   omega
  rw [key]
  constructor
  ·rintro (h | h | h)
   ·exact ⟨2, by simp, by omega, h⟩
   ·exact ⟨3, by simp, by omega, h⟩
   exact ⟨4, by simp, by omega, h⟩
  rintro ⟨n, h1, h5, h⟩
  simp only [List.length_cons, List.length_nil] at h1
  have : n = 2 ∨ n = 3 ∨ n = 4 := by omega
  rcases this with rfl | rfl | rfl
  ·exact .inl h
  ·exact .inr (.inl h)
  exact .inr (.inr h)
 | [a, b], _, hs =>
  have ha := FY hs
  have ha2 := a.toNat_lt
  have Cn := b.toNat_lt
  have iY : ¬ okL [a, b] 2 := fun h => by rw [nV (by omega) (by omega) (by simp) h] at hs; cases hs
  rw [ok2] at iY
  have h3 : rz [a, b] 3 ↔ (a.toNat = 224 ∧ 160 ≤ b.toNat ∧ b.toNat ≤ 191) ∨ ((225 ≤ a.toNat ∧ a.toNat ≤ 236 ∨ 238 ≤ a.toNat ∧ a.toNat ≤ 239) ∧ 128 ≤ b.toNat ∧ b.toNat ≤ 191) ∨ (a.toNat = 237 ∧ 128 ≤ b.toNat ∧ b.toNat ≤ 159) := by
   show okL [a, b, 128] 3 ∨ okL [a, b, 191] 3 ↔ _
   rw [ok3, ok3, e0, e1]; omega
  have h4 : rz [a, b] 4 ↔ (a.toNat = 240 ∧ 144 ≤ b.toNat ∧ b.toNat ≤ 191) ∨ (241 ≤ a.toNat ∧ a.toNat ≤ 243 ∧ 128 ≤ b.toNat ∧ b.toNat ≤ 191) ∨ (a.toNat = 244 ∧ 128 ≤ b.toNat ∧ b.toNat ≤ 143) := by
   show okL [a, b, 128, 128] 4 ∨ okL [a, b, 191, 191] 4 ↔ _
   rw [ok4, ok4, e0, e1]; omega
  have key : jL [a, b] = true ↔ rz [a, b] 3 ∨ rz [a, b] 4 := by
   rw [h3, h4]
   simp only [jL, decide_eq_true_eq]
   omega
  rw [key]
  constructor
  ·rintro (h | h)
   ·exact ⟨3, by simp, by omega, h⟩
   exact ⟨4, by simp, by omega, h⟩
  rintro ⟨n, h1, h5, h⟩
  simp only [List.length_cons, List.length_nil] at h1
  have : n = 3 ∨ n = 4 := by omega
  rcases this with rfl | rfl
  ·exact .inl h
  exact .inr h
 | [a, b, c], _, hs =>
  have ha2 := a.toNat_lt
  have Cn := b.toNat_lt
  have Xc := c.toNat_lt
  have h4 : rz [a, b, c] 4 ↔ ((a.toNat = 240 ∧ 144 ≤ b.toNat ∧ b.toNat ≤ 191) ∨ (241 ≤ a.toNat ∧ a.toNat ≤ 243 ∧ 128 ≤ b.toNat ∧ b.toNat ≤ 191) ∨ (a.toNat = 244 ∧ 128 ≤ b.toNat ∧ b.toNat ≤ 143)) ∧ 128 ≤ c.toNat ∧ c.toNat ≤ 191 := by
   show okL [a, b, c, 128] 4 ∨ okL [a, b, c, 191] 4 ↔ _
   rw [ok4, ok4, e0, e1]; omega
  have key : jL [a, b, c] = true ↔ rz [a, b, c] 4 := by
   rw [h4]
   simp only [jL, decide_eq_true_eq]
  rw [key]
  constructor
  ·intro h; exact ⟨4, by simp, by omega, h⟩
  rintro ⟨n, h1, h5, h⟩
  simp only [List.length_cons, List.length_nil] at h1
  have : n = 4 := by omega
  subst this; exact h
 | a :: b :: c :: d :: t, _, _ =>
  simp only [jL, Bool.false_eq_true, false_iff]
  rintro ⟨n, h1, h5, _⟩
  simp only [List.length_cons] at h1
  omega
section
variable {w : World} {l : List UInt8}
theorem Nn (s : List UInt8) (fM : s ≠ []) (hs : d9 s = none) (hl : s.length ≤ 9223372036854775000) : bF Tryz.prog 246 [str s] w fun v w' => v = .bool (jL s) ∧ Kept noB w w' := by
 have H := Sep.bB w
 have zS : 1 ≤ s.length := List.length_pos_iff.2 fM
 refine dP Tryz.func246 rfl rfl rfl rfl ?_
 refine Sr (Am ?_)
 refine Qn (au (Sr (Mv ?_)))
 refine Vt ?_
 refine Vv (Gives.bM rfl rfl rfl (by omega)) (Am ?_)
 refine Qn (aF (bA (fun n : Nat => [(0, str s), (3, I n)]) (fun n w' => (s.length < n ∧ ∀ j, s.length < j → j < n → j ≤ 4 → ¬ rz s j) ∧ Sep w noB [] w') (fun n _ => 5 - n) (s.length + 1) ⟨rfl, rfl, trivial⟩ ⟨⟨by omega, fun j h1 h2 => by omega⟩, H⟩ (fun n τ w7 hI => ?_)))
 obtain ⟨⟨hn, iY⟩, H7⟩ := hI
 try simp only [cZ, like, bC, bZ]
 refine au (Sr (Mv ?_))
 refine Vv (Gives.leq rfl rfl) (Qn ?_)
 refine Cp rfl (fun Ia => ?_) (fun Ia => ?_)
 ·have hn4 : n ≤ 4 := by omega
  refine Sk (au (aF (Sr (Mv ?_))))
  refine Mv ?_
  refine Am ?_
  refine Am ?_
  refine Qn (au (aF (bA (fun j : Nat => [(0, str s), (3, I n), (4, str (s ++ List.replicate j 128)), (5, str (s ++ List.replicate j 191))]) (fun j w' => s.length + j ≤ n ∧ Sep w noB [] w') (fun j _ => n - j) 0 ⟨rfl, rfl, by simp; rfl, by simp; rfl, trivial⟩ ⟨by omega, H7⟩ (fun j τ wa hI => ?_))))
  obtain ⟨hj, Ha⟩ := hI
  try simp only [cZ, like, bC]
  refine au (Sr (Mv ?_))
  refine Vt ?_
  rw [List.length_append, List.length_replicate]
  refine Mv ?_
  refine Vl ?_
  refine Qn (Cp rfl (fun Ib => ?_) (fun Ib => ?_))
  ·have hjn : s.length + j < n := by omega
   refine Sk (aF (Sr (Mv ?_)))
   refine Vv (Gives.iW (b := [128]) rfl rfl (by rw [List.length_append, List.length_replicate]; simp; omega)) ?_
   refine Am ?_
   refine Qn (aB (Mv ?_))
   refine Vv (Gives.iW (b := [191]) rfl rfl (by rw [List.length_append, List.length_replicate]; simp; omega)) ?_
   refine Am ?_
   refine aP (aA ?_)
   exact aC (j + 1) ⟨rfl, rfl, by rw [List.replicate_succ', ← List.append_assoc]; rfl, by rw [List.replicate_succ', ← List.append_assoc]; rfl, trivial⟩ ⟨by omega, Ha⟩ (by omega)
  have hjn : j = n - s.length := by omega
  subst hjn
  refine bq (aT (aO (aV (aj (Sr (Mv ?_))))))
  refine aN Ha (zA (KR s n 128) (by rw [zD (by omega)]; omega)) (h := fun wb Hb _ => ?_)
  refine Mv ?_
  refine Vx ?_
  refine Vx ?_
  refine Vx ?_
  refine Am ?_
  refine Am ?_
  refine Am ?_
  refine Nx (Mv ?_)
  refine aN Hb (zA (KR s n 191) (by rw [zD (by omega)]; omega)) (h := fun wc Hc _ => ?_)
  refine Mv ?_
  refine Vx ?_
  refine Vx ?_
  refine Vx ?_
  refine Am ?_
  refine Am ?_
  refine Am ?_
  refine Nx ?_
  have JR := KS (l := KR s n 128) (n := n) (by omega) hn4 (by rw [zD (by omega)]; omega)
  have Yo := KS (l := KR s n 191) (n := n) (by omega) hn4 (by rw [zD (by omega)]; omega)
  refine Mv ?_
  refine Mv ?_
  refine dh (t := 42) rfl (fun Sa => ?_) (fun Sa => ?_)
  ·refine On (Mv ?_)
   refine On (Mv ?_)
   refine On (Ve ?_)
   refine Pt ?_
   refine Mv ?_
   refine aG (t := 47) rfl (fun Sb => ?_) (fun Sb => ?_)
   ·refine Of (Of (Ou (Ou (Ou (Of (Pt ?_))))))
    refine Qn (aQ rfl ?_)
    refine Sr (Am ?_)
    refine Qn (Rb (aR (aH (aL (ak (hR := ?_))))))
    have ay : jL s = true := (tL fM hs).2 ⟨n, hn, hn4, by unfold rz; rw [← JR, ← Yo]; first | exact .inl ⟨by assumption, by omega⟩ | exact .inr ⟨by assumption, by omega⟩⟩
    exact ⟨by rw [ay]; rfl, Hc.kept⟩
   refine On (Mv ?_)
   refine On (Mv ?_)
   refine dh (t := 49) rfl (fun Sc => ?_) (fun Sc => ?_)
   ·refine On (Mv ?_)
    refine On (Mv ?_)
    refine On (Ve ?_)
    refine On (Pt ?_)
    refine Pf ?_
    refine Qn (Cp rfl (fun Ic => ?_) (fun Ic => ?_))
    ·refine Sr (Am ?_)
     refine Qn (Rb (aR (aH (aL (ak (hR := ?_))))))
     have ay : jL s = true := (tL fM hs).2 ⟨n, hn, hn4, by unfold rz; rw [← JR, ← Yo]; first | exact .inl ⟨by assumption, by omega⟩ | exact .inr ⟨by assumption, by omega⟩⟩
     exact ⟨by rw [ay]; rfl, Hc.kept⟩
    refine aY (aA (aj (aB (Mv ?_))))
    refine Vv (Gives.bM rfl rfl rfl (by omega)) (Am ?_)
    refine aP ?_
    exact aC (n + 1) ⟨rfl, rfl, trivial⟩ ⟨⟨by omega, fun j a b c => by
    rcases Nat.lt_or_ge j n with h | h
    ·exact iY j a h c
    have : j = n := by omega
    subst this
    unfold rz
    rw [← JR, ← Yo]
    rintro (⟨x, y⟩ | ⟨x, y⟩) <;> simp_all⟩, Hc⟩ (by omega)
   refine Of (Of (Of (On (Pf ?_))))
   refine Pf ?_
   refine Qn (bg rfl ?_)
   refine aY (aA (aj (aB (Mv ?_))))
   refine Vv (Gives.bM rfl rfl rfl (by omega)) (Am ?_)
   refine aP ?_
   exact aC (n + 1) ⟨rfl, rfl, trivial⟩ ⟨⟨by omega, fun j a b c => by
   rcases Nat.lt_or_ge j n with h | h
   ·exact iY j a h c
   have : j = n := by omega
   subst this
   unfold rz
   rw [← JR, ← Yo]
   rintro (⟨x, y⟩ | ⟨x, y⟩) <;> simp_all⟩, Hc⟩ (by omega)
  refine Of (Of (Of (Pf ?_)))
  refine Mv ?_
  refine On (Mv ?_)
  refine On (Mv ?_)
  refine dh (t := 49) rfl (fun Sd => ?_) (fun Sd => ?_)
  ·refine On (Mv ?_)
   refine On (Mv ?_)
   refine On (Ve ?_)
   refine On (Pt ?_)
   refine Pf ?_
   refine Qn (Cp rfl (fun Id => ?_) (fun Id => ?_))
   ·refine Sr (Am ?_)
    refine Qn (Rb (aR (aH (aL (ak (hR := ?_))))))
    have ay : jL s = true := (tL fM hs).2 ⟨n, hn, hn4, by unfold rz; rw [← JR, ← Yo]; first | exact .inl ⟨by assumption, by omega⟩ | exact .inr ⟨by assumption, by omega⟩⟩
    exact ⟨by rw [ay]; rfl, Hc.kept⟩
   refine aY (aA (aj (aB (Mv ?_))))
   refine Vv (Gives.bM rfl rfl rfl (by omega)) (Am ?_)
   refine aP ?_
   exact aC (n + 1) ⟨rfl, rfl, trivial⟩ ⟨⟨by omega, fun j a b c => by
   rcases Nat.lt_or_ge j n with h | h
   ·exact iY j a h c
   have : j = n := by omega
   subst this
   unfold rz
   rw [← JR, ← Yo]
   rintro (⟨x, y⟩ | ⟨x, y⟩) <;> simp_all⟩, Hc⟩ (by omega)
  refine Of (Of (Of (On (Pf ?_))))
  refine Pf ?_
  refine Qn (bg rfl ?_)
  refine aY (aA (aj (aB (Mv ?_))))
  refine Vv (Gives.bM rfl rfl rfl (by omega)) (Am ?_)
  refine aP ?_
  exact aC (n + 1) ⟨rfl, rfl, trivial⟩ ⟨⟨by omega, fun j a b c => by
  rcases Nat.lt_or_ge j n with h | h
  ·exact iY j a h c
  have : j = n := by omega
  subst this
  unfold rz
  rw [← JR, ← Yo]
  rintro (⟨x, y⟩ | ⟨x, y⟩) <;> simp_all⟩, Hc⟩ (by omega)
 have ay : jL s = false := by
  rw [← Bool.not_eq_true, tL fM hs]
  rintro ⟨j, h1, h2, h3⟩
  exact iY j h1 (by omega) h2 h3
 refine bq (aT (aO (aV (aj (Sr (Am ?_))))))
 refine Qn (aM (ak (hR := ?_)))
 exact ⟨by rw [ay]; rfl, H7.kept⟩
end

def lS (l : List UInt8) (i : Nat) (out : List UInt8) : List UInt8 × Nat × Int := oC (l.length + 1 - i) (l.drop i) i out
theorem Al {l : List UInt8} {i : Nat} {out : List UInt8} (h : l.length ≤ i) : lS l i out = ([], 0, 3) := by
 unfold lS
 rw [List.drop_of_length_le h]
 cases l.length + 1 - i <;> rfl
theorem Np {l : List UInt8} {i f : Nat} {out : List UInt8} (hf : l.length - i < f) : oC f (l.drop i) i out = lS l i out := by
 rcases Nat.lt_or_ge i (l.length + 1) with h | h
 ·exact Qb (by rw [List.length_drop]; omega) (by rw [List.length_drop]; omega)
 rw [Al (by omega), List.drop_of_length_le (by omega)]
 cases f <;> rfl
theorem drop_cons {l : List UInt8} {i : Nat} (h : i < l.length) : l.drop i = l.getD i 0 :: l.drop (i + 1) := by
 rw [List.drop_eq_getElem_cons h, List.getD_eq_getElem?_getD, List.getElem?_eq_getElem h]; rfl
theorem tN {l : List UInt8} {i : Nat} {out : List UInt8} {c : UInt8} (h : i < l.length) (hc : c = l.getD i 0) : lS l i out =
    if c = 34 then (out, i + 1, 0) else if c < 32 then ([], 0, 41) else if c = 92 then (if (jh (l.drop i)).2.2 ≠ 0 then ([], 0, (jh (l.drop i)).2.2) else lS l (i + (jh (l.drop i)).2.1) (out ++ (jh (l.drop i)).1))
    else if (d9 (l.drop i)).isSome = true then lS l (i + (gL (l.drop i)).2) (out ++ (l.drop i).take (gL (l.drop i)).2) else ([], 0, if jL (l.drop i) then 3 else 40) := by
  have hd := drop_cons h
  rw [← hc] at hd
  have Rk : ∀ n o, 1 ≤ n → oC (l.length - i) ((l.drop i).drop n) (i + n) o = lS l (i + n) o := fun n o hn => by
    rw [List.drop_drop]
    exact Np (by omega)
  rw [show lS l i out = oC (l.length - i + 1) (l.drop i) i out by unfold lS; congr 1; omega]
  rw [hd] at Rk ⊢
  rw [oC]
  by_cases h1 : c = 34
  · rw [if_pos h1, if_pos h1]
  rw [if_neg h1, if_neg h1]
  by_cases h2 : c < 32
  · rw [if_pos h2, if_pos h2]
  rw [if_neg h2, if_neg h2]
  by_cases h3 : c = 92
  · rw [if_pos h3, if_pos h3]
    dsimp only
    by_cases h4 : (jh (c :: l.drop (i + 1))).2.2 ≠ 0
    · rw [if_pos h4, if_pos h4]
    rw [if_neg h4, if_neg h4]
    refine Rk _ _ ?_
    rcases yG (c :: l.drop (i + 1)) with ⟨e, h0, hx⟩ | ⟨b, n, hn, hx⟩
    · rw [hx] at h4; exact absurd h0 h4
    rw [hx]; exact hn
  rw [if_neg h3, if_neg h3]
  unfold gL
  cases hn : d9 (c :: l.drop (i + 1)) with
  | none => rfl
  | some x =>
    obtain ⟨r, n⟩ := x
    obtain ⟨k1, _, _, _, _⟩ := qN hn
    exact Rk n _ k1
theorem zF (r : Int) : (encodeRune r).length ≤ 4 := by
 unfold encodeRune encodeRuneZ
 repeat' split
 all_goals simp
theorem VQ (s : List UInt8) : (jh s).1.length ≤ 4 ∧ (jh s).2.1 ≤ 12 := by
 obtain ⟨x, hx⟩ : ∃ x, x = jh s := ⟨_, rfl⟩
 rw [← hx]
 unfold jh BQ at hx
 dsimp only at hx
 repeat' split at hx
 all_goals subst hx
 all_goals first
  | exact ⟨zF _, by simp⟩
  | exact ⟨by simp, by simp⟩
theorem VR {l : List UInt8} (h : l.getD 0 0 = 34) (fM : l ≠ []) : q9 l = lS l 1 [] := by
 cases l with
 | nil => exact absurd rfl fM
 | cons c t =>
  have hc : c = 34 := h
  unfold q9 lS
  simp [hc]
section
variable {w : World} {l : List UInt8}
theorem Bq (l : List UInt8) (hl : l.length ≤ 10000000) : bF Tryz.prog 197 [str l] w fun v w' => v = .tuple #[str (q9 l).1, I (q9 l).2.1, I (q9 l).2.2] ∧ Kept noB w w' := by
  have H := Sep.bB w
  refine dP Tryz.func197 rfl rfl rfl rfl ?_
  refine Sr (Am ?_)
  refine Am ?_
  refine Am ?_
  refine Qn (au (Sr (Mv ?_)))
  refine Vv (Gives.iD (b := []) rfl rfl) (Qn ?_)
  refine Cp rfl (fun Cr => ?_) (fun Cr => ?_)
  · have bY : q9 l = ([], 0, 3) := by rw [Cr]; rfl
    refine Sr (Am ?_)
    refine Am ?_
    refine Am ?_
    refine Qn (Rs (ak (hR := ?_)))
    exact ⟨by rw [bY]; rfl, H.kept⟩
  have zS : 0 < l.length := List.length_pos_iff.2 Cr
  have Yp := drop_cons zS
  refine Sk (au (Sr (Mv ?_)))
  refine Vv (Gives.fF (i := 0) rfl rfl (by omega)) (Vn ?_)
  refine Qn (Cp rfl (fun Ia => ?_) (fun Ia => ?_))
  · have bY : q9 l = ([], 0, 41) := by
      rw [List.drop_zero] at Yp
      rw [Yp]; unfold q9
      dsimp only
      rw [if_pos (fun e => by rw [e] at Ia; exact Ia rfl)]
    refine Sr (Am ?_)
    refine Am ?_
    refine Am ?_
    refine Qn (Rs (ak (hR := ?_)))
    exact ⟨by rw [bY]; rfl, H.kept⟩
  have h34 : l.getD 0 0 = 34 := UInt8.toNat_inj.1 (by show (l.getD 0 0).toNat = 34; omega)
  have dJ := VR h34 (List.length_pos_iff.1 zS)
  obtain ⟨res, hr0⟩ : ∃ res, res = q9 l := ⟨_, rfl⟩
  rw [← hr0] at dJ ⊢
  refine Sk (Sr (Am ?_))
  refine Nx (Am ?_)
  refine Qn (au (aF ?_))
  have Ha := Sep.zy H 5
  refine bA (fun x : Nat × List UInt8 × Value => [(0, str l), (5, x.2.2), (6, I x.1)]) (fun x w' => (1 ≤ x.1 ∧ x.1 ≤ l.length + 12 ∧ x.2.1.length ≤ 4 * x.1 ∧ res = lS l x.1 x.2.1) ∧ Sep w noB [gU 5 x.2.2 x.2.1] w') (fun x _ => l.length - x.1) (1, [], _) ⟨rfl, rfl, rfl, trivial⟩ ⟨⟨Nat.le_refl _, by dsimp only; omega, by simp, dJ⟩, Ha⟩ (fun x τ wa hI => ?_)
  obtain ⟨i, out, v1⟩ := x
  obtain ⟨⟨hi1, hi2, O8, dJ⟩, Ha⟩ := hI
  dsimp only at hi1 hi2 O8 dJ Ha
  try simp only [cZ, like, bC, bZ]
  refine au (Sr (Mv ?_))
  refine Mv ?_
  refine Vt ?_
  refine Vl ?_
  refine Qn (Cp rfl (fun Ib => ?_) (fun Ib => ?_))
  · have bU : i < l.length := by omega
    obtain ⟨c, hc⟩ : ∃ c, c = l.getD i 0 := ⟨_, rfl⟩
    have EO := c.toNat_lt
    have hs := tN (out := out) bU hc
    rw [← dJ] at hs
    have el : (c < 32) = (c.toNat < 32) := propext UInt8.lt_iff_toNat_lt
    have ee : ∀ k : UInt8, (c = k) = (c.toNat = k.toNat) := fun k => propext UInt8.toNat_inj.symm
    have e34 : (34 : UInt8).toNat = 34 := rfl
    have e92 : (92 : UInt8).toNat = 92 := rfl
    simp only [el, ee, e34, e92] at hs
    have Xq : (l.drop i).length = l.length - i := List.length_drop
    refine Sk (aF (au (Sr (Mv ?_))))
    refine Mv ?_
    refine Vv (Gives.fF rfl rfl bU) ?_
    rw [← hc]
    refine Ve ?_
    refine Qn (Cp rfl (fun Ic => ?_) (fun Ic => ?_))
    · have bY : res = (out, i + 1, 0) := by rw [hs, if_pos (by omega)]
      refine Sr (Mv ?_)
      refine Vv (Gives.Jg Ha At0 rfl) (Mv ?_)
      refine Vv (Gives.bM rfl rfl rfl (by omega)) (Am ?_)
      refine Am ?_
      refine Am ?_
      refine Qn (Rs (aH (aR (aH (aL (ak (hR := ?_)))))))
      exact ⟨by rw [bY]; rfl, Ha.kept⟩
    refine Sk (au (Sr (Mv ?_)))
    refine Mv ?_
    refine Vv (Gives.fF rfl rfl bU) ?_
    rw [← hc]
    refine Vl ?_
    refine Qn (Cp rfl (fun Id => ?_) (fun Id => ?_))
    · have bY : res = ([], 0, 41) := by rw [hs, if_neg (by omega), if_pos (by omega)]
      refine Sr (Am ?_)
      refine Am ?_
      refine Am ?_
      refine Qn (Rs (aH (aR (aH (aL (ak (hR := ?_)))))))
      exact ⟨by rw [bY]; rfl, Ha.kept⟩
    refine Sk (au (Sr (Mv ?_)))
    refine Mv ?_
    refine Vv (Gives.fF rfl rfl bU) ?_
    rw [← hc]
    refine Ve ?_
    refine Qn (Cp rfl (fun Ie => ?_) (fun Ie => ?_))
    · rw [if_neg (by omega), if_neg (by omega), if_pos (by omega)] at hs
      have hel := VQ (l.drop i)
      obtain ⟨e, he⟩ : ∃ e, e = jh (l.drop i) := ⟨_, rfl⟩
      have oK := yG (l.drop i)
      rw [← he] at hs hel oK
      refine Sr (Mv ?_)
      refine Mv ?_
      refine Vv (Gives.dW rfl rfl (by omega)) (aN Ha (Nl (l.drop i) (by omega)) (h := fun wb Hb _ => ?_))
      rw [← he]
      refine Mv ?_
      refine Vx ?_
      refine Vx ?_
      refine Vx ?_
      refine Am ?_
      refine Am ?_
      refine Am ?_
      refine Qn (au (Sr (Mv ?_)))
      refine Vn ?_
      refine Qn (Cp rfl (fun If => ?_) (fun If => ?_))
      · have bY : res = ([], 0, e.2.2) := by rw [hs, if_pos If]
        refine Sr (Mv ?_)
        refine Am ?_
        refine Am ?_
        refine Am ?_
        refine Qn (Rs (aL (aH (aR (aH (aL (ak (hR := ?_))))))))
        exact ⟨by rw [bY]; rfl, Hb.kept⟩
      have e20 : e.2.2 = 0 := by simpa using If
      rw [if_neg (by simpa using e20)] at hs
      have JN : 1 ≤ e.2.1 := by
        rcases oK with ⟨x, h0, hx⟩ | ⟨b, n, hn, hx⟩
        · rw [hx] at e20; exact absurd e20 h0
        rw [hx]; exact hn
      clear oK
      refine Sk (Sr (Mv ?_))
      refine Mv ?_
      refine tJ Hb (xs := out) (news := e.1) At0 (by omega) (h := fun v2 wc Hc => ?_)
      refine Am ?_
      refine Nx (Mv ?_)
      refine Mv ?_
      refine Vv (Gives.bM rfl rfl rfl (by omega)) (Am ?_)
      refine Qn (bq (aT (aV ?_)))
      exact aC (i + e.2.1, out ++ e.1, v2) ⟨rfl, rfl, rfl, trivial⟩ ⟨⟨by dsimp only; omega, by dsimp only; omega, by dsimp only; rw [List.length_append]; omega, hs⟩, Hc⟩ (by dsimp only; omega)
    rw [if_neg (by omega), if_neg (by omega), if_neg (by omega)] at hs
    refine Sk (Sr (Mv ?_))
    refine Mv ?_
    refine Vv (Gives.dW rfl rfl (by omega)) (aN Ha (zA (l.drop i) (by omega)) (h := fun wd Hd _ => ?_))
    refine Mv ?_
    refine Vx ?_
    refine Vx ?_
    refine Vx ?_
    refine Am ?_
    refine Am ?_
    refine Am ?_
    refine Qn (au (Sr (Mv ?_)))
    refine Vv (Gives.not rfl) (Mv ?_)
    refine dh (t := 65) rfl (fun Sa => ?_) (fun Sa => ?_)
    · have Gy : d9 (l.drop i) = none := by
        cases h : d9 (l.drop i) with
        | none => rfl
        | some x => rw [h] at Sa; cases Sa
      have YI : (d9 (l.drop i)).isSome = false := by rw [Gy]; rfl
      rw [if_neg (by rw [YI]; simp)] at hs
      refine On (Mv ?_)
      refine On (Mv ?_)
      refine On (Vv (Gives.dW rfl rfl (by omega)) (On ?_))
      refine aN Hd (Nn (l.drop i) (fun e => by rw [e] at Xq; simp at Xq; omega) Gy (by omega)) (h := fun we He _ => ?_)
      refine Pt ?_
      refine Qn (Cd rfl (fun Ig => ?_) (fun Ig => ?_))
      · have bY : res = ([], 0, 3) := by rw [hs, Ig]; rfl
        refine Sr (Am ?_)
        refine Am ?_
        refine Am ?_
        refine Qn (Rs (aH (aR (aH (aL (ak (hR := ?_)))))))
        exact ⟨by rw [bY]; rfl, He.kept⟩
      have Mc : jL (l.drop i) = false := by simpa using Ig
      have bY : res = ([], 0, 40) := by rw [hs, Mc]; rfl
      refine Sk (au (Sr (Mv ?_)))
      refine Vv (Gives.not rfl) (Qn ?_)
      refine Cd rfl (fun Ih => ?_) (fun Ih => ?_)
      · refine Sr (Am ?_)
        refine Am ?_
        refine Am ?_
        refine Qn (Rs (aH (aR (aH (aL (ak (hR := ?_)))))))
        exact ⟨by rw [bY]; rfl, He.kept⟩
      (rw [YI] at Ih; cases Ih)
    have JN : (d9 (l.drop i)).isSome = true := by simpa using Sa
    have rG := KO JN
    rw [if_pos JN] at hs
    refine Of (Of (Of (Of (Pf ?_))))
    refine Qn (bg rfl ?_)
    refine Sk (au (Sr (Mv ?_)))
    refine Vv (Gives.not rfl) (Qn ?_)
    refine Cd rfl (fun Ii => ?_) (fun Ii => ?_)
    · (rw [JN] at Ii; cases Ii)
    refine Sk (Sr (Mv ?_))
    refine Mv ?_
    refine Mv ?_
    refine Mv ?_
    refine Mv ?_
    refine Vv (Gives.bM rfl rfl rfl (by omega)) (Vv (Gives.fE (i := i) (m := i + (gL (l.drop i)).2) rfl rfl rfl (by omega) (by omega)) ?_)
    rw [List.drop_take, Nat.add_sub_cancel_left]
    refine tJ Hd (xs := out) (news := (l.drop i).take (gL (l.drop i)).2) At0 (by rw [List.length_take]; omega) (h := fun v2 wf Hf => ?_)
    refine Am ?_
    refine Qn (aB (Mv ?_))
    refine Mv ?_
    refine Vv (Gives.bM rfl rfl rfl (by omega)) (Am ?_)
    refine aP (aA ?_)
    exact aC (i + (gL (l.drop i)).2, out ++ (l.drop i).take (gL (l.drop i)).2, v2) ⟨rfl, rfl, rfl, trivial⟩ ⟨⟨by dsimp only; omega, by dsimp only; omega, by dsimp only; rw [List.length_append, List.length_take]; omega, hs⟩, Hf⟩ (by dsimp only; omega)
  have bY : res = ([], 0, 3) := dJ.trans (Al (by omega))
  refine bq (aT (aO (aV (aj (Sr (Am ?_))))))
  refine Am ?_
  refine Am ?_
  refine Qn (aM (ak (hR := ?_)))
  exact ⟨by rw [bY]; rfl, Ha.kept⟩
end

def aJ (t : dH) : List Value := [I t.kind, .bool t.null]
def bK (c : iB) : List Value := [.bool c.null, I c.n, str c.s]
def aI (x : bL) : List Value := [I x.kind, I x.n, str x.s]
def bE (c : gG) : List Value := [I c.id, str c.name, I c.type.kind, .bool c.type.null, .bool c.dflt.null, I c.dflt.n, str c.dflt.s]
def agg (cs : List Value) : Value := .agg cs.toArray
theorem Nq {a b : List UInt8} : (((⟨a.toArray⟩ : ByteArray).toList == (⟨b.toArray⟩ : ByteArray).toList) = true) ↔ a = b := by
 rw [ByteArray.toList_mk, ByteArray.toList_mk]; simp
section
variable {P : Program} {w : World} {d : Nat} {f : Field} {fs : List Field} {xs ys : List Value} {u v : Value} {e : Bool}
theorem EC (hn : (f.name != "_") = true) (h1 : OneCell P f.type) (hu : xs[f.offset]? = some u) (hv : ys[f.offset]? = some v) (he : (Op.equalIn d f.type u v).run P w = .ok e w) :
    (Op.eqFields d xs.toArray ys.toArray (f :: fs)).run P w = if e = true then (Op.eqFields d xs.toArray ys.toArray fs).run P w else .ok false w := by
  have JL : f.name ≠ "_" := by simpa using hn
  simp only [Op.eqFields, if_pos JL, Sem.run_bind, Ah hu, Ah hv, Result.andThen_ok, he]
  cases e <;> simp
theorem ZB {k : Nat} {us vs : List Value} (hn : (f.name != "_") = true) (h1 : Agg P f.type k) (hu : (xs.drop f.offset).take k = us) (hv : (ys.drop f.offset).take k = vs) (he : (Op.equalIn d f.type (.agg us.toArray) (.agg vs.toArray)).run P w = .ok e w) :
    (Op.eqFields d xs.toArray ys.toArray (f :: fs)).run P w = if e = true then (Op.eqFields d xs.toArray ys.toArray fs).run P w else .ok false w := by
  have JL : f.name ≠ "_" := by simpa using hn
  simp only [Op.eqFields, if_pos JL, Sem.run_bind, FH hu, FH hv, Result.andThen_ok, he]
  cases e <;> simp
theorem VT : (Op.eqFields d xs.toArray ys.toArray []).run P w = .ok true w := rfl
theorem Dt {t : TypeId} (a b : Int) (h : P.underlying t = some (.int .i64)) : (Op.equalIn (d + 1) t (I a) (I b)).run P w = .ok (decide (a = b)) w := by
 rw [show I a = .int .i64 a from rfl, show I b = .int .i64 b from rfl, run_equalIn_int w d t .i64 .i64 a b h]
 rfl
theorem TF {t : TypeId} (a b : Bool) (h : P.underlying t = some .bool) : (Op.equalIn (d + 1) t (.bool a) (.bool b)).run P w = .ok (decide (a = b)) w := by
 rw [run_equalIn_bool' w d t a b h]
 cases a <;> cases b <;> rfl
theorem Nr {t : TypeId} (a b : List UInt8) (h : P.underlying t = some .string) : (Op.equalIn (d + 1) t (str a) (str b)).run P w = .ok (decide (a = b)) w := by
 rw [show str a = .string ⟨a.toArray⟩ from rfl, show str b = .string ⟨b.toArray⟩ from rfl, run_equalIn_string w d t _ _ h]
 congr 1
 rw [Bool.eq_iff_iff, Nq, decide_eq_true_eq]
end
theorem TG {d : Nat} (a b : iB) (w : World) : (Op.equalIn (d + 2) 47 (.agg (bK a).toArray) (.agg (bK b).toArray)).run Tryz.prog w = .ok (decide (a = b)) w := by
 rw [run_equalIn_agg w (d + 1) _ _ _ (by kernel_rfl) (by kernel_rfl)]
 simp only [Program.fieldsOf, Tryz.underlying47]
 rw [EC rfl Zr rfl rfl (TF a.null b.null (by kernel_rfl)), EC rfl Zq rfl rfl (Dt a.n b.n (by kernel_rfl)), EC rfl XH rfl rfl (Nr a.s b.s (by kernel_rfl)), VT]
 have e : (a = b) = (a.null = b.null ∧ a.n = b.n ∧ a.s = b.s) := propext ⟨fun h => by subst h; exact ⟨rfl, rfl, rfl⟩, fun h => iB.ext' h.1 h.2.1 h.2.2⟩
 simp only [e]
 by_cases h1 : a.null = b.null <;> by_cases h2 : a.n = b.n <;> by_cases h3 : a.s = b.s <;> simp [h1, h2, h3]
theorem eqType {d : Nat} (a b : dH) (w : World) : (Op.equalIn (d + 2) 45 (.agg (aJ a).toArray) (.agg (aJ b).toArray)).run Tryz.prog w = .ok (decide (a = b)) w := by
 rw [run_equalIn_agg w (d + 1) _ _ _ (by kernel_rfl) (by kernel_rfl)]
 simp only [Program.fieldsOf, Tryz.underlying45]
 rw [EC rfl XG rfl rfl (Dt a.kind b.kind (by kernel_rfl)), EC rfl Zr rfl rfl (TF a.null b.null (by kernel_rfl)), VT]
 have e : (a = b) = (a.kind = b.kind ∧ a.null = b.null) := propext ⟨fun h => by subst h; exact ⟨rfl, rfl⟩, fun h => dH.ext' h.1 h.2⟩
 simp only [e]
 by_cases h1 : a.kind = b.kind <;> by_cases h2 : a.null = b.null <;> simp [h1, h2]
theorem XM {d : Nat} (a b : bL) (w : World) : (Op.equalIn (d + 2) 60 (.agg (aI a).toArray) (.agg (aI b).toArray)).run Tryz.prog w = .ok (decide (a = b)) w := by
 rw [run_equalIn_agg w (d + 1) _ _ _ (by kernel_rfl) (by kernel_rfl)]
 simp only [Program.fieldsOf, Tryz.underlying60]
 rw [EC rfl XG rfl rfl (Dt a.kind b.kind (by kernel_rfl)), EC rfl Zq rfl rfl (Dt a.n b.n (by kernel_rfl)), EC rfl XH rfl rfl (Nr a.s b.s (by kernel_rfl)), VT]
 have e : (a = b) = (a.kind = b.kind ∧ a.n = b.n ∧ a.s = b.s) := propext ⟨fun h => by subst h; exact ⟨rfl, rfl, rfl⟩, fun h => bL.ext' h.1 h.2.1 h.2.2⟩
 simp only [e]
 by_cases h1 : a.kind = b.kind <;> by_cases h2 : a.n = b.n <;> by_cases h3 : a.s = b.s <;> simp [h1, h2, h3]
theorem ZC {d : Nat} (a b : gG) (w : World) : (Op.equalIn (d + 3) 49 (.agg (bE a).toArray) (.agg (bE b).toArray)).run Tryz.prog w = .ok (decide (a = b)) w := by
 rw [run_equalIn_agg w (d + 2) _ _ _ (by kernel_rfl) (by kernel_rfl)]
 simp only [Program.fieldsOf, Tryz.underlying49]
 rw [EC rfl XG rfl rfl (Dt a.id b.id (by kernel_rfl)), EC rfl XH rfl rfl (Nr a.name b.name (by kernel_rfl)), ZB (k := 2) rfl Zt rfl rfl (eqType a.type b.type w), ZB (k := 3) rfl Zu rfl rfl (TG a.dflt b.dflt w), VT]
 have e : (a = b) = (a.id = b.id ∧ a.name = b.name ∧ a.type = b.type ∧ a.dflt = b.dflt) := propext ⟨fun h => by subst h; exact ⟨rfl, rfl, rfl, rfl⟩, fun h => gG.ext' h.1 h.2.1 h.2.2.1 h.2.2.2⟩
 simp only [e]
 by_cases h1 : a.id = b.id <;> by_cases h2 : a.name = b.name <;> by_cases h3 : a.type = b.type <;> by_cases h4 : a.dflt = b.dflt <;> simp [h1, h2, h3, h4]
instance : EqData Tryz.prog 47 iB bK := ⟨fun a b w => TG (d := 9998) a b w, by kernel_rfl⟩
instance : EqData Tryz.prog 45 dH aJ := ⟨fun a b w => eqType (d := 9998) a b w, by kernel_rfl⟩
instance : EqData Tryz.prog 60 bL aI := ⟨fun a b w => XM (d := 9998) a b w, by kernel_rfl⟩
instance : EqData Tryz.prog 49 gG bE := ⟨fun a b w => ZC (d := 9997) a b w, by kernel_rfl⟩
end Go.Proofs.YtolaedhdjcnijaaGreatDoor
namespace Go.Mw
open Go.RowKit
section rules
variable {P : Program} {r : Option Nat} {n : Nat} {ops : Array Oper} {Q : Post} {rest : List Oper} {σ : St} {w w' w₀ : World} {S : Nat → Prop} {rs : List HP} {put : HP → List HP} {ty : TypeId} {pos : String} {after : Array Edge} {guard : Option (Nat × Bool)} {lv : List Bool} {pd pd' : List (Nat × Bool)}
theorem aZ {d b k : Nat} {x : Operand} {T : TypeId} [Agg P T k] {cs : List Value} {E : TypeId} (H : Sep w₀ S rs w) (hx : evF σ x = .pointer (some ⟨b, 0, none⟩) := by exact rfl)
    (hat : At rs (blk b cs E) put := by first | exact At0 | exact At1 | exact At2 | exact At3 | exact At4 | exact At5 | exact At6 | exact At7 | exact At8 | exact At9) (hk : cs.length = k := by exact rfl) (hd : Nat.blt d n = true := by exact rfl) (h : FL P r n ops Q rest (upd σ d (.agg cs.toArray)) w) :
    FL P r n ops Q ({ dst := some d, op := .load T x, type := ty, pos := pos, after := after, guard := none } :: rest) σ w :=
  p8 H hx hat (us := cs) (by rw [List.drop_zero, ← hk, List.take_length]) hk hd h
theorem dD (fK : fC n ops = true) (i : Nat) {d b k : Nat} {x : Operand} {T : TypeId} [Agg P T k] {cs : List Value} {E : TypeId} (H : Sep w₀ S rs w) (ho : ops[i]? = some { dst := some d, op := .load T x, type := ty, pos := pos, after := after, guard := guard } := by exact rfl)
    (hw : Region.wanted { dst := some d, op := .load T x, type := ty, pos := pos, after := after, guard := guard } (dR ops σ) = true := by kernel_rfl) (hx : evF σ x = .pointer (some ⟨b, 0, none⟩) := by exact rfl)
    (hat : At rs (blk b cs E) put := by first | exact At0 | exact At1 | exact At2 | exact At3 | exact At4 | exact At5 | exact At6 | exact At7 | exact At8 | exact At9) (hk : cs.length = k := by exact rfl) (jl : mP ops lv (pd.map (·.1)) i = true := by kernel_rfl)
    (h : FG P r n ops Q (lv.set i true) ((i, false) :: pd) (upd σ d (.agg cs.toArray)) w) : FG P r n ops Q lv pd σ w :=
  VD fK i H ho hw hx hat (us := cs) (by rw [List.drop_zero, ← hk, List.take_length]) hk jl h
theorem aD {b k : Nat} {x y : Operand} {T : TypeId} [Agg P T k] {cs us : List Value} {E : TypeId} (H : Sep w₀ S rs w) (hx : evF σ x = .pointer (some ⟨b, 0, none⟩) := by exact rfl) (hy : evF σ y = .agg us.toArray := by exact rfl)
    (hat : At rs (blk b cs E) put := by first | exact At0 | exact At1 | exact At2 | exact At3 | exact At4 | exact At5 | exact At6 | exact At7 | exact At8 | exact At9) (hk : us.length = k := by exact rfl) (hl : cs.length = k := by exact rfl) (hv : us.all Value.oneCell' = true := by exact rfl)
    (h : ∀ w', Sep w₀ S (put (blk b us E)) w' → FL P r n ops Q rest σ w') :
    FL P r n ops Q ({ dst := none, op := .store T x y, type := ty, pos := pos, after := after, guard := none } :: rest) σ w :=
  EX H hx hy hk (fun u hu => List.all_eq_true.1 hv u hu) hat (by omega) (by rw [List.take_zero, List.nil_append, List.drop_of_length_le (by omega), List.append_nil]) h
theorem ED {ρ : Operand → Value} {b k : Nat} {x y : Operand} {T : TypeId} [h1 : Agg P T k] {cs us : List Value} {E : TypeId} (H : Sep w₀ S rs w) (hx : ρ x = .pointer (some ⟨b, 0, none⟩)) (hy : ρ y = .agg us.toArray)
    (hat : At rs (blk b cs E) put) (hk : us.length = k) (hl : cs.length = k) (hv : us.all Value.oneCell' = true) : ∃ w', JX P ρ (.store T x y) ty w w' ∧ Sep w₀ S (put (blk b us E)) w' := by
  have hb := H.obj hat
  have dJ := run_storeCells_at P b 0 E us 0 cs.toArray w hb (by simp; omega) (fun u hu => List.all_eq_true.1 hv u hu)
  have hs : cs.take 0 ++ us ++ cs.drop (0 + us.length) = us := by rw [List.take_zero, List.nil_append, List.drop_of_length_le (by omega), List.append_nil]
  refine ⟨w.setRow b (cs.take 0 ++ us ++ cs.drop (0 + us.length)).toArray, fun _ _ _ _ => ?_, ?_⟩
  · simp only [Nat.add_zero] at dJ
    simp [execOp, hx, hy, Instr.storeAt, Instr.sureAddr, storeVar, h1.size, Value.cells, hk]
    simp [hk] at dJ
    rw [dJ]
    simp
  rw [hs]
  refine H.setObj hat ⟨rfl, rfl, rfl, by simp, fun j hj hS => ?_⟩ ?_
  · simp only [World.setRow, Array.getElem?_modify]; rw [if_neg (fun e => hS e.symm)]
  simp only [World.setRow, Array.getElem?_modify, if_true, hb, Option.map_some]
theorem dF (fK : fC n ops = true) (e : Nat) (pd' : List (Nat × Bool)) {b k : Nat} {x y : Operand} {T : TypeId} [Agg P T k] {cs us : List Value} {E : TypeId} (H : Sep w₀ S rs w) (ho : ops[e]? = some { dst := none, op := .store T x y, type := ty, pos := pos, after := after, guard := guard } := by exact rfl)
    (hw : Region.wanted { dst := none, op := .store T x y, type := ty, pos := pos, after := after, guard := guard } (dR ops σ) = true := by kernel_rfl) (hx : evF σ x = .pointer (some ⟨b, 0, none⟩) := by exact rfl) (hy : evF σ y = .agg us.toArray := by exact rfl)
    (hat : At rs (blk b cs E) put := by first | exact At0 | exact At1 | exact At2 | exact At3 | exact At4 | exact At5 | exact At6 | exact At7 | exact At8 | exact At9) (hk : us.length = k := by exact rfl) (hl : cs.length = k := by exact rfl) (hv : us.all Value.oneCell' = true := by exact rfl)
    (jl : iq ops lv (pd.map (·.1)) e = true := by kernel_rfl) (qA : pd.filter (fun p => !((above ops e).contains p.1)) = pd' := by kernel_rfl)
    (h : ∀ w', Sep w₀ S (put (blk b us E)) w' → jX P ops σ w' pd' ∧ FG P r n ops Q (lv.set e true) pd' σ w') : FG P r n ops Q lv pd σ w :=
  WR fK e pd' ho hw (ED H hx hy hat hk hl hv) jl qA h
end rules
end Go.Mw
namespace Go.Proofs.YtolaedhdjcnijaaGreatDoor
open Go Go.Mw Go.Lib
set_option maxRecDepth 4000

theorem mh {a b : Bool} (h : a = true ↔ b = true) : Value.bool a = .bool b := congrArg Value.bool (Bool.eq_iff_iff.2 h)
section
variable {w : World}
theorem OT (t : dH) : bF Tryz.prog 157 [agg (aJ t)] w fun v w' => v = .bool (nL t) ∧ Kept noB w w' := by
 have H := Sep.bB w
 refine dP Tryz.func157 rfl rfl rfl rfl ?_
 refine Sr (dz H (h := fun b1 w2 H2 k1 => ?_))
 refine Am ?_
 refine Nx (Vf ?_)
 refine Ld H2 ?_
 refine Vv (Gives.geq rfl rfl) (Mv ?_)
 refine aG (t := 6) rfl (fun WG => ?_) (fun WG => ?_)
 ·refine On (Vf ?_)
  refine On (Ld H2 ?_)
  refine On (Vv (Gives.leq rfl rfl) (Pt ?_))
  refine Am ?_
  refine Qn (aM (ak (hR := ?_)))
  exact ⟨mh (by unfold nL; simp; omega), H2.kept⟩
 refine Of (Of (Of (Pf ?_)))
 refine Am ?_
 refine Qn (aM (ak (hR := ?_)))
 exact ⟨mh (by unfold nL; simp; omega), H2.kept⟩
end

attribute [local irreducible] nL
section
variable {w : World}
theorem TH (t : dH) : bF Tryz.prog 114 [agg (aJ t)] w fun v w' => v = agg (bK ⟨nL t && t.null, 0, []⟩) ∧ Kept noB w w' := by
 have H := Sep.bB w
 refine qo Tryz.func114 rfl rfl rfl rfl ?_
 refine Sr (dz H (h := fun b1 w2 H2 k1 => ?_))
 refine bD H2 (h := fun b3 w4 H4 k3 => ?_)
 refine Nx (aZ H4 (h := ?_))
 refine aN H4 (OT _) (h := fun w7 H7 k6 => ?_)
 refine Mv ?_
 refine dh (t := 5) rfl (fun EN => ?_) (fun EN => ?_)
 ·refine On (Vf ?_)
  refine On (Ld H7 ?_)
  refine Pt ?_
  refine Vv (Gives.build (out := bK ⟨t.null, 0, []⟩) (Fills.one rfl rfl rfl (by decide) rfl Fills.nil)) (aD H7 (h := fun wa Ha => ?_))
  refine Qn (aM (aW (h := ?_)))
  exact ⟨_, ⟨_, _, _, rfl, rfl, jw (cs := bK ⟨t.null, 0, []⟩) (o := 0) (k := 3) (Ha.obj At0) (us := bK ⟨t.null, 0, []⟩) rfl rfl, rfl⟩, by simp_all [fB, agg], Ha.kept⟩
 refine Of (Of (Pf ?_))
 refine Vv (Gives.build (out := bK ⟨false, 0, []⟩) (Fills.one rfl rfl rfl (by decide) rfl Fills.nil)) (aD H7 (h := fun wb Hb => ?_))
 refine Qn (aM (aW (h := ?_)))
 exact ⟨_, ⟨_, _, _, rfl, rfl, jw (cs := bK ⟨false, 0, []⟩) (o := 0) (k := 3) (Hb.obj At0) (us := bK ⟨false, 0, []⟩) rfl rfl, rfl⟩, by simp_all [fB, agg], Hb.kept⟩
end
theorem vC {n : Int} (h : 0 ≤ n ∧ n ≤ 18446744073709551615) : IntKind.u64.wrap n = n := by simp [IntKind.wrap, IntKind.bits, IntKind.signed]; omega
theorem Br {n : Int} (h : 0 ≤ n ∧ n ≤ 255) : IntKind.u8.wrap n = n := by rw [IntKind.wrap_u8]; omega
end Go.Proofs.YtolaedhdjcnijaaGreatDoor
namespace Go.Mw
section gives
variable {P : Program} {ρ : Operand → Value} {ty : TypeId} {w : World} {x y : Operand} {T U : TypeId} {k : IntKind} {a b c : Int}
theorem Gives.Du (hx : ρ x = .int k a) (hy : ρ y = .int k b) (he : k.wrap (a + b) = c) : Gives P ρ (.binOp .add T x y U) ty w (.int k c) w := by subst he; exact Gives.add hx hy
theorem Gives.Qo (hx : ρ x = .int k a) (hy : ρ y = .int k b) (he : k.wrap (a - b) = c) : Gives P ρ (.binOp .sub T x y U) ty w (.int k c) w := by subst he; exact Gives.sub hx hy
theorem Gives.ZE (hx : ρ x = .int k a) (hy : ρ y = .int k b) (he : k.wrap (a * b) = c) : Gives P ρ (.binOp .mul T x y U) ty w (.int k c) w := by subst he; exact Gives.mul hx hy
theorem Gives.aa5 (hx : ρ x = .int k a) (hy : ρ y = .int k b) (h0 : b ≠ 0) (he : k.wrap (a.tdiv b) = c) : Gives P ρ (.binOp .quo T x y U) ty w (.int k c) w := by subst he; exact Gives.quo hx hy h0
theorem Gives.ZF (hx : ρ x = .int k a) (he : k.wrap (0 - a) = c) : Gives P ρ (.unOp .neg T x) ty w (.int k c) w := by subst he; exact Gives.neg hx
theorem Gives.jd {s t : TypeId} {j : IntKind} [hs : iH P s j] [ht : iH P t k] (hx : ρ x = .int j a) (he : k.wrap a = c) : Gives P ρ (.convert s t x) ty w (.int k c) w := by subst he; exact Gives.conv hx
end gives
end Go.Mw
namespace Go.Proofs.YtolaedhdjcnijaaGreatDoor
open Go Go.Mw Go.Lib
def TI : List UInt8 := [48, 49, 50, 51, 52, 53, 54, 55, 56, 57]
theorem Ap {d : Nat} (h : d < 10) : (TI.take (d + 1)).drop d = [UInt8.ofNat (48 + d)] := by
 have key : ∀ i : Fin 10, (TI.take (i.val + 1)).drop i.val = [UInt8.ofNat (48 + i.val)] := by decide
 exact key ⟨d, h⟩
def mE : List UInt8 := [48, 49, 50, 51, 52, 53, 54, 55, 56, 57, 97, 98, 99, 100, 101, 102]
theorem xu {d : Nat} (h : d < 16) : (mE.take (d + 1)).drop d = [jH d] := by
 have key : ∀ i : Fin 16, (mE.take (i.val + 1)).drop i.val = [jH i.val] := by decide
 exact key ⟨d, h⟩
theorem Aq {n : Nat} (h : n < 18446744073709551616) : (decDigits n).length ≤ 20 := mK 19 n (by omega)
theorem ZG (a b : Nat) : (a : Int).tdiv (b : Int) = ((a / b : Nat) : Int) := by rw [Int.tdiv_eq_ediv_of_nonneg (by omega)]; rfl
theorem FZ {l : List UInt8} {i : Nat} (h : i < l.length) : pG (l.take (i + 1)) = pG (l.take i) ++ [jH ((l.getD i 0).toNat / 16), jH ((l.getD i 0).toNat % 16)] := by
 unfold pG
 rw [List.take_add_one, List.getElem?_eq_getElem h, List.flatMap_append]
 simp [List.getD_eq_getElem?_getD, List.getElem?_eq_getElem h]
theorem qP (l : List UInt8) : (pG l).length = 2 * l.length := by
 induction l with
 | nil => rfl
 | cons c l ih => unfold pG at *; rw [List.flatMap_cons, List.length_append, ih]; simp; omega
theorem Bt : ∀ (n : Nat), n < 18446744073709551616 → ∀ w : World, bF Tryz.prog 189 [.int .u64 n] w fun v w' => v = str (decDigits n) ∧ w = w' := by
 intro n
 induction n using Nat.strongRecOn with
 | _ n ih =>
 intro hn w
 have H := Sep.bB w
 have hd := Nat.mod_lt n (show 0 < 10 by decide)
 refine dP Tryz.func189 rfl rfl rfl rfl ?_
 refine Sr (Am ?_)
 refine Nx (Mv ?_)
 refine Vv (Gives.oO (b := 10) rfl rfl (by omega)) (Mv ?_)
 refine Vv (Gives.oO (b := 10) rfl rfl (by omega)) (Vv (Gives.Du (c := ((n % 10 + 1 : Nat) : Int)) rfl rfl (by rw [vC (by omega)]; omega)) ?_)
 refine Vv (Gives.fE (l := TI) (i := n % 10) (m := n % 10 + 1) rfl rfl rfl (by omega) (by show n % 10 + 1 ≤ 10; omega)) ?_
 rw [Ap hd]
 refine Am ?_
 refine Qn (au (Sr (Mv ?_)))
 refine Vl ?_
 refine Qn (Cp rfl (fun Ia => ?_) (fun Ia => ?_))
 ·have bU : n < 10 := by omega
  have bY : decDigits n = [UInt8.ofNat (48 + n % 10)] := by rw [decDigits_one bU, Nat.mod_eq_of_lt bU]
  refine Sr (Mv ?_)
  refine Am ?_
  refine Qn (Rs (ak (hR := ?_)))
  exact ⟨by rw [bY]; rfl, rfl⟩
 have LU : ¬ n < 10 := by omega
 have bY : decDigits n = decDigits (n / 10) ++ [UInt8.ofNat (48 + n % 10)] := by rw [decDigits, dif_neg LU]
 have hq : n / 10 < n := by omega
 have hlq := Aq (n := n / 10) (by omega)
 refine Sk (Sr (Mv ?_))
 refine Vv (Gives.aa5 (c := ((n / 10 : Nat) : Int)) rfl rfl (by decide) (by rw [show (10 : Int) = ((10 : Nat) : Int) from rfl, ZG, vC (by omega)])) ?_
 refine dY (ih (n / 10) hq (by omega) _) (h := ?_)
 refine Mv ?_
 refine Vv (Gives.iW rfl rfl (by first | omega | (simp; done) | (simp; omega))) ?_
 refine Am ?_
 refine Qn (aM (ak (hR := ?_)))
 exact ⟨by rw [bY]; rfl, rfl⟩
section
variable {w : World}
theorem Dv (n : Int) (hn : fits n) : bF Tryz.prog 132 [I n] w fun v w' => v = str (itoa n) ∧ Kept noB w w' := by
 have H := Sep.bB w
 obtain ⟨JN, hn2⟩ := hn
 refine dP Tryz.func132 rfl rfl rfl rfl ?_
 refine Sr (Am ?_)
 refine Qn (au (Sr (Mv ?_)))
 refine Vl ?_
 refine Qn (Cp rfl (fun Xe => ?_) (fun Xe => ?_))
 ·have bY : itoa n = 45 :: decDigits n.natAbs := if_pos Xe
  have hl := Aq (n := n.natAbs) (by omega)
  refine Sr (Mv ?_)
  refine Vv (Gives.bM (c := n + 1) rfl rfl rfl (by omega)) (Vv (Gives.ZF (c := -(n + 1)) rfl (by rw [wrap64 (by omega)]; omega)) ?_)
  refine Vv (Gives.jd (k := .u64) (c := -(n + 1)) rfl (vC (by omega))) (Vv (Gives.Du (c := (n.natAbs : Int)) rfl rfl (by rw [vC (by omega)]; omega)) ?_)
  refine dY (Bt n.natAbs (by omega) _) (h := ?_)
  refine Vv (Gives.iW rfl rfl (by first | omega | (simp; done) | (simp; omega))) ?_
  refine Am ?_
  refine Qn (Rs (ak (hR := ?_)))
  exact ⟨by rw [bY]; rfl, Kept.refl _ _⟩
 have bY : itoa n = decDigits n.toNat := if_neg Xe
 refine Sk (Sr (Mv ?_))
 refine Vv (Gives.jd (k := .u64) (c := (n.toNat : Int)) rfl (by rw [vC (by omega)]; omega)) ?_
 refine dY (Bt n.toNat (by omega) _) (h := ?_)
 refine Am ?_
 refine Qn (aM (ak (hR := ?_)))
 exact ⟨by rw [bY]; rfl, Kept.refl _ _⟩
end
end Go.Proofs.YtolaedhdjcnijaaGreatDoor
namespace Go.Proofs.YtolaedhdjcnijaaGreatDoor
open Go Go.Mw Go.Lib
set_option maxRecDepth 4000
def rA (b : Bool) (m : List UInt8) : Int × Bool :=
 if m.length < 1 ∨ 19 < m.length then (0, false) else match dB m 0 with
  | none => (0, false)
  | some n => if b = true ∧ n ≤ 9223372036854775808 then (-(n : Int), true) else (IntKind.i64.wrap n, decide (b = false ∧ n < 9223372036854775808))
theorem VU (l : List UInt8) : lG l = if l.head? = some 45 then rA true (l.drop 1) else rA false l := by
 unfold lG rA
 split
 ·split
  ·rfl
  cases dB (l.drop 1) 0 with
  | none => rfl
  | some n => simp
 split
 ·rfl
 cases dB l 0 with
 | none => rfl
 | some n => simp
theorem TJ {n : Nat} (h : n ≤ 9223372036854775808) : IntKind.i64.wrap (IntKind.u64.wrap (0 - (n : Int))) = -(n : Int) := by
 have e : IntKind.u64.wrap (0 - (n : Int)) = (0 - (n : Int)) % 18446744073709551616 := by simp [IntKind.wrap, IntKind.bits, IntKind.signed]
 rw [e, IntKind.wrap_i64]; omega
theorem OU {l : List UInt8} (h : 0 < l.length) : (l.head? = some 45) ↔ (l.getD 0 0).toNat = 45 := by
 cases l with
 | nil => cases h
 | cons c t =>
  simp
  exact ⟨fun e => by rw [e]; rfl, fun e => UInt8.toNat_inj.1 e⟩
section
variable {w : World}
theorem F3 (l : List UInt8) (hl : l.length ≤ 9223372036854775807) : bF Tryz.prog 196 [str l] w fun v w' => v = .tuple #[I (lG l).1, .bool (lG l).2] ∧ w = w' := by
  have H := Sep.bB w
  obtain ⟨res, ay⟩ : ∃ res, res = lG l := ⟨_, rfl⟩
  have zW := VU l
  rw [← ay] at zW ⊢
  refine dP Tryz.func196 rfl rfl rfl rfl ?_
  refine Sr (Am ?_)
  refine Am ?_
  refine Nx (Mv ?_)
  refine Vt ?_
  refine Vg ?_
  refine Mv ?_
  refine aG (t := 10) rfl (fun hs7 => ?_) (fun hs7 => ?_)
  · have zS : 0 < l.length := by omega
    refine On (Mv ?_)
    refine On (Vv (Gives.fF (i := 0) rfl rfl (by omega)) (On ?_))
    refine Ve ?_
    obtain ⟨b, hb⟩ : ∃ b, b = decide (((l.getD 0 0).toNat : Int) = 45) := ⟨_, rfl⟩
    rw [← hb]
    refine Pt ?_
    refine Am ?_
    refine Qn (au (Sr (Mv ?_)))
    refine Qn (Cd rfl (fun Ia => ?_) (fun Ia => ?_))
    · have WH := Ia
      have h45 : (l.getD 0 0).toNat = 45 := by rw [Ia] at hb; have := of_decide_eq_true hb.symm; omega
      obtain ⟨m, hm⟩ : ∃ m, m = l.drop 1 := ⟨_, rfl⟩
      have Xi : m.length ≤ l.length := by rw [hm, List.length_drop]; omega
      rw [if_pos ((OU zS).2 h45), ← hm, ← Ia] at zW
      refine aB (Mv ?_)
      refine Vv (Gives.dW (i := 1) rfl rfl (by omega)) ?_
      rw [← hm]
      refine Am ?_
      refine Qn (au (Sr (Mv ?_)))
      refine Vt ?_
      refine Vl ?_
      refine Mv ?_
      refine aG (t := 21) rfl (fun Sa => ?_) (fun Sa => ?_)
      · refine Of (Of (Of (Pt ?_)))
        refine Qn (aQ rfl ?_)
        refine Sr (Am ?_)
        refine Am ?_
        refine Qn (Rs (ak (hR := ?_)))
        exact ⟨by first | (rw [bY]; rfl) | (rw [zW]; unfold rA; rw [if_pos (by omega)]; rfl), rfl⟩
      refine On (Mv ?_)
      refine On (Vt ?_)
      refine On (Vg ?_)
      refine Pf ?_
      refine Qn (Cp rfl (fun Ib => ?_) (fun Ib => ?_))
      · have hmm : 19 < m.length := by omega
        refine Sr (Am ?_)
        refine Am ?_
        refine Qn (Rs (ak (hR := ?_)))
        exact ⟨by first | (rw [bY]; rfl) | (rw [zW]; unfold rA; rw [if_pos (by omega)]; rfl), rfl⟩
      have hmm : ¬ (m.length < 1 ∨ 19 < m.length) := by omega
      refine Sk (Sr (Am ?_))
      refine Qn (au (Sr (Am ?_)))
      refine Qn (aF ?_)
      obtain ⟨dm, hdm⟩ : ∃ dm, dm = dB m 0 := ⟨_, rfl⟩
      unfold rA at zW
      rw [if_neg hmm, ← hdm] at zW
      refine bA (fun x : Nat × Nat => [(0, str m), (4, .bool b), (5, .int .u64 x.2), (6, I x.1)]) (fun x w' => (x.1 ≤ m.length ∧ x.2 < 10 ^ x.1 ∧ dB (m.drop x.1) x.2 = dm) ∧ w = w') (fun x _ => m.length - x.1) (0, 0) ⟨rfl, rfl, rfl, rfl, trivial⟩ ⟨⟨Nat.zero_le _, by decide, by rw [List.drop_zero, hdm]⟩, rfl⟩ (fun x τ wa hI => ?_)
      obtain ⟨i, acc⟩ := x
      obtain ⟨⟨hi, Ri, dJ⟩, rfl⟩ := hI
      dsimp only at hi Ri dJ
      try simp only [cZ, like, bC, bZ]
      refine au (Sr (Mv ?_))
      refine Mv ?_
      refine Vt ?_
      refine Vl ?_
      refine Qn (Cp rfl (fun Ic => ?_) (fun Ic => ?_))
      · have bU : i < m.length := by omega
        obtain ⟨c, hc⟩ : ∃ c, c = m.getD i 0 := ⟨_, rfl⟩
        have EO := c.toNat_lt
        rw [drop_cons bU, ← hc, dB] at dJ
        have hp : 10 ^ i ≤ 10 ^ 18 := Nat.pow_le_pow_right (by decide) (by omega)
        have hps : 10 ^ (i + 1) = 10 ^ i * 10 := Nat.pow_succ 10 i
        have Yq : (10 : Nat) ^ 18 = 1000000000000000000 := by decide
        refine Sk (au (aF (au (Sr (Mv ?_)))))
        refine Mv ?_
        refine Vv (Gives.fF rfl rfl bU) ?_
        rw [← hc]
        refine Vl ?_
        refine Mv ?_
        refine aG (t := 36) rfl (fun Sb => ?_) (fun Sb => ?_)
        · refine Of (Of (Of (Of (Pt ?_))))
          refine Qn (aQ rfl ?_)
          refine Sr (Am ?_)
          refine Am ?_
          refine Qn (Rs (aH (aL (aR (aH (aL (ak (hR := ?_))))))))
          have hd : ¬ jQ c = true := fun h => by have := of_decide_eq_true h; omega
          rw [if_neg hd] at dJ
          rw [← dJ] at zW
          exact ⟨by rw [zW]; rfl, rfl⟩
        refine On (Mv ?_)
        refine On (Mv ?_)
        refine On (Vv (Gives.fF rfl rfl bU) ?_)
        rw [← hc]
        refine On (Vg ?_)
        refine Pf ?_
        refine Qn (Cp rfl (fun Id => ?_) (fun Id => ?_))
        · refine Sr (Am ?_)
          refine Am ?_
          refine Qn (Rs (aH (aL (aR (aH (aL (ak (hR := ?_))))))))
          have hd : ¬ jQ c = true := fun h => by have := of_decide_eq_true h; omega
          rw [if_neg hd] at dJ
          rw [← dJ] at zW
          exact ⟨by rw [zW]; rfl, rfl⟩
        have hd : jQ c = true := decide_eq_true (by omega)
        refine Sk (aB (Mv ?_))
        refine Vv (Gives.ZE (c := ((10 * acc : Nat) : Int)) rfl rfl (by rw [vC (by omega)]; omega)) ?_
        refine Mv ?_
        refine Mv ?_
        refine Vv (Gives.fF rfl rfl bU) ?_
        rw [← hc]
        refine Vv (Gives.Qo (c := ((c.toNat - 48 : Nat) : Int)) rfl rfl (by rw [Br (by omega)]; omega)) ?_
        refine Vv (Gives.jd (k := .u64) (c := ((c.toNat - 48 : Nat) : Int)) rfl (vC (by omega))) (Vv (Gives.Du (c := ((10 * acc + (c.toNat - 48) : Nat) : Int)) rfl rfl (by rw [vC (by omega)]; omega)) ?_)
        refine Am ?_
        refine aP (aA (aj (aB (Mv ?_))))
        refine Vv (Gives.bM rfl rfl rfl (by omega)) (Am ?_)
        refine aP ?_
        exact aC (i + 1, 10 * acc + (c.toNat - 48)) ⟨rfl, rfl, rfl, rfl, trivial⟩ ⟨⟨by dsimp only; omega, by dsimp only; omega, by dsimp only; rw [if_pos hd] at dJ; exact dJ⟩, rfl⟩ (by dsimp only; omega)
      have YE : i = m.length := by omega
      have hp : 10 ^ i ≤ 10 ^ 19 := Nat.pow_le_pow_right (by decide) (by omega)
      have Yq : (10 : Nat) ^ 19 = 10000000000000000000 := by decide
      rw [YE, List.drop_length, dB] at dJ
      rw [← dJ] at zW
      dsimp only at zW
      refine bq (aT (aO (aV (aj (au (Sr (Mv ?_)))))))
      refine Mv ?_
      refine dh (t := 51) rfl (fun Sc => ?_) (fun Sc => ?_)
      · refine On (Mv ?_)
        refine On (Vv (Gives.leq rfl rfl) (Pt ?_))
        refine Qn (Cp rfl (fun Ie => ?_) (fun Ie => ?_))
        · refine Sr (Mv ?_)
          refine Vv (Gives.ZF (c := IntKind.u64.wrap (0 - (acc : Int))) rfl rfl) (Vv (Gives.jd (k := .i64) (c := -(acc : Int)) rfl (TJ (by omega))) ?_)
          refine Am ?_
          refine Am ?_
          refine Qn (Rs (ak (hR := ?_)))
          exact ⟨by rw [zW, if_pos ⟨WH, by omega⟩]; rfl, rfl⟩
        refine Sk (Sr (Mv ?_))
        refine Vv (Gives.jd (k := .i64) (c := IntKind.i64.wrap (acc : Int)) rfl rfl) (Mv ?_)
        refine Vv (Gives.not rfl) (Mv ?_)
        refine dh (t := 62) rfl (fun Sd => ?_) (fun Sd => ?_)
        · (rw [WH] at Sd; cases Sd)
        have ES : decide (b = false ∧ acc < 9223372036854775808) = false := decide_eq_false (fun h => by rw [WH] at h; cases h.1)
        have bY : res = (IntKind.i64.wrap (acc : Int), false) := by rw [zW, if_neg (fun h => by omega), ES]
        refine Of (Of (Pf ?_))
        refine Am ?_
        refine Am ?_
        refine Qn (aM (ak (hR := ?_)))
        refine ⟨?_, rfl⟩; rw [bY]; simp only [fB, upd_same, upd_ne, ne_eq, Nat.reduceEqDiff, not_false_eq_true, List.map_cons, List.map_nil, nu]; rfl
      (rw [WH] at Sc; cases Sc)
    have WH := Ia
    have h45 : (l.getD 0 0).toNat ≠ 45 := by rw [Ia] at hb; have := of_decide_eq_false hb.symm; omega
    obtain ⟨m, hm⟩ : ∃ m, m = l := ⟨_, rfl⟩
    have Xi : m.length ≤ l.length := by rw [hm]; omega
    rw [if_neg (fun h => h45 ((OU zS).1 h)), ← hm, ← Ia] at zW
    rw [← hm]
    refine Sk (au (Sr (Mv ?_)))
    refine Vt ?_
    refine Vl ?_
    refine Mv ?_
    refine aG (t := 21) rfl (fun Se => ?_) (fun Se => ?_)
    · refine Of (Of (Of (Pt ?_)))
      refine Qn (aQ rfl ?_)
      refine Sr (Am ?_)
      refine Am ?_
      refine Qn (Rs (ak (hR := ?_)))
      exact ⟨by first | (rw [bY]; rfl) | (rw [zW]; unfold rA; rw [if_pos (by omega)]; rfl), rfl⟩
    refine On (Mv ?_)
    refine On (Vt ?_)
    refine On (Vg ?_)
    refine Pf ?_
    refine Qn (Cp rfl (fun If => ?_) (fun If => ?_))
    · have hmm : 19 < m.length := by omega
      refine Sr (Am ?_)
      refine Am ?_
      refine Qn (Rs (ak (hR := ?_)))
      exact ⟨by first | (rw [bY]; rfl) | (rw [zW]; unfold rA; rw [if_pos (by omega)]; rfl), rfl⟩
    have hmm : ¬ (m.length < 1 ∨ 19 < m.length) := by omega
    refine Sk (Sr (Am ?_))
    refine Qn (au (Sr (Am ?_)))
    refine Qn (aF ?_)
    obtain ⟨dm, hdm⟩ : ∃ dm, dm = dB m 0 := ⟨_, rfl⟩
    unfold rA at zW
    rw [if_neg hmm, ← hdm] at zW
    refine bA (fun x : Nat × Nat => [(0, str m), (4, .bool b), (5, .int .u64 x.2), (6, I x.1)]) (fun x w' => (x.1 ≤ m.length ∧ x.2 < 10 ^ x.1 ∧ dB (m.drop x.1) x.2 = dm) ∧ w = w') (fun x _ => m.length - x.1) (0, 0) ⟨rfl, rfl, rfl, rfl, trivial⟩ ⟨⟨Nat.zero_le _, by decide, by rw [List.drop_zero, hdm]⟩, rfl⟩ (fun x τ wb hI => ?_)
    obtain ⟨i, acc⟩ := x
    obtain ⟨⟨hi, Ri, dJ⟩, rfl⟩ := hI
    dsimp only at hi Ri dJ
    try simp only [cZ, like, bC, bZ]
    refine au (Sr (Mv ?_))
    refine Mv ?_
    refine Vt ?_
    refine Vl ?_
    refine Qn (Cp rfl (fun Ig => ?_) (fun Ig => ?_))
    · have bU : i < m.length := by omega
      obtain ⟨c, hc⟩ : ∃ c, c = m.getD i 0 := ⟨_, rfl⟩
      have EO := c.toNat_lt
      rw [drop_cons bU, ← hc, dB] at dJ
      have hp : 10 ^ i ≤ 10 ^ 18 := Nat.pow_le_pow_right (by decide) (by omega)
      have hps : 10 ^ (i + 1) = 10 ^ i * 10 := Nat.pow_succ 10 i
      have Yq : (10 : Nat) ^ 18 = 1000000000000000000 := by decide
      refine Sk (au (aF (au (Sr (Mv ?_)))))
      refine Mv ?_
      refine Vv (Gives.fF rfl rfl bU) ?_
      rw [← hc]
      refine Vl ?_
      refine Mv ?_
      refine aG (t := 36) rfl (fun Sf => ?_) (fun Sf => ?_)
      · refine Of (Of (Of (Of (Pt ?_))))
        refine Qn (aQ rfl ?_)
        refine Sr (Am ?_)
        refine Am ?_
        refine Qn (Rs (aH (aL (aR (aH (aL (ak (hR := ?_))))))))
        have hd : ¬ jQ c = true := fun h => by have := of_decide_eq_true h; omega
        rw [if_neg hd] at dJ
        rw [← dJ] at zW
        exact ⟨by rw [zW]; rfl, rfl⟩
      refine On (Mv ?_)
      refine On (Mv ?_)
      refine On (Vv (Gives.fF rfl rfl bU) ?_)
      rw [← hc]
      refine On (Vg ?_)
      refine Pf ?_
      refine Qn (Cp rfl (fun Ih => ?_) (fun Ih => ?_))
      · refine Sr (Am ?_)
        refine Am ?_
        refine Qn (Rs (aH (aL (aR (aH (aL (ak (hR := ?_))))))))
        have hd : ¬ jQ c = true := fun h => by have := of_decide_eq_true h; omega
        rw [if_neg hd] at dJ
        rw [← dJ] at zW
        exact ⟨by rw [zW]; rfl, rfl⟩
      have hd : jQ c = true := decide_eq_true (by omega)
      refine Sk (aB (Mv ?_))
      refine Vv (Gives.ZE (c := ((10 * acc : Nat) : Int)) rfl rfl (by rw [vC (by omega)]; omega)) ?_
      refine Mv ?_
      refine Mv ?_
      refine Vv (Gives.fF rfl rfl bU) ?_
      rw [← hc]
      refine Vv (Gives.Qo (c := ((c.toNat - 48 : Nat) : Int)) rfl rfl (by rw [Br (by omega)]; omega)) ?_
      refine Vv (Gives.jd (k := .u64) (c := ((c.toNat - 48 : Nat) : Int)) rfl (vC (by omega))) (Vv (Gives.Du (c := ((10 * acc + (c.toNat - 48) : Nat) : Int)) rfl rfl (by rw [vC (by omega)]; omega)) ?_)
      refine Am ?_
      refine aP (aA (aj (aB (Mv ?_))))
      refine Vv (Gives.bM rfl rfl rfl (by omega)) (Am ?_)
      refine aP ?_
      exact aC (i + 1, 10 * acc + (c.toNat - 48)) ⟨rfl, rfl, rfl, rfl, trivial⟩ ⟨⟨by dsimp only; omega, by dsimp only; omega, by dsimp only; rw [if_pos hd] at dJ; exact dJ⟩, rfl⟩ (by dsimp only; omega)
    have YE : i = m.length := by omega
    have hp : 10 ^ i ≤ 10 ^ 19 := Nat.pow_le_pow_right (by decide) (by omega)
    have Yq : (10 : Nat) ^ 19 = 10000000000000000000 := by decide
    rw [YE, List.drop_length, dB] at dJ
    rw [← dJ] at zW
    dsimp only at zW
    refine bq (aT (aO (aV (aj (au (Sr (Mv ?_)))))))
    refine Mv ?_
    refine dh (t := 51) rfl (fun Sg => ?_) (fun Sg => ?_)
    · (rw [WH] at Sg; cases Sg)
    refine Of (Of (Pf ?_))
    refine Qn (bg rfl ?_)
    refine Sk (Sr (Mv ?_))
    refine Vv (Gives.jd (k := .i64) (c := IntKind.i64.wrap (acc : Int)) rfl rfl) (Mv ?_)
    refine Vv (Gives.not rfl) (Mv ?_)
    refine dh (t := 62) rfl (fun Sh => ?_) (fun Sh => ?_)
    · have ES : decide (b = false ∧ acc < 9223372036854775808) = decide ((acc : Int) < 9223372036854775808) := by
        rw [decide_eq_decide]; exact ⟨fun h => by omega, fun h => ⟨WH, by omega⟩⟩
      have bY : res = (IntKind.i64.wrap (acc : Int), decide ((acc : Int) < 9223372036854775808)) := by rw [zW, if_neg (by rw [WH]; simp), ES]
      refine On (Mv ?_)
      refine On (Vl ?_)
      refine Pt ?_
      refine Am ?_
      refine Am ?_
      refine Qn (aM (ak (hR := ?_)))
      refine ⟨?_, rfl⟩; rw [bY]; simp only [fB, upd_same, upd_ne, ne_eq, Nat.reduceEqDiff, not_false_eq_true, List.map_cons, List.map_nil, nu]; rfl
    (rw [WH] at Sh; cases Sh)
  have LW : l = [] := List.eq_nil_of_length_eq_zero (by omega)
  have bY : res = (0, false) := by rw [zW, LW]; rfl
  refine Of (Of (Of (Pf ?_)))
  refine Am ?_
  refine Qn (au (Sr (Mv ?_)))
  refine Qn (bg rfl ?_)
  refine Sk (au (Sr (Mv ?_)))
  refine Vt ?_
  refine Vl ?_
  refine Mv ?_
  refine aG (t := 21) rfl (fun Si => ?_) (fun Si => ?_)
  · refine Of (Of (Of (Pt ?_)))
    refine Qn (aQ rfl ?_)
    refine Sr (Am ?_)
    refine Am ?_
    refine Qn (Rs (ak (hR := ?_)))
    exact ⟨by first | (rw [bY]; rfl) | (rw [zW]; unfold rA; rw [if_pos (by omega)]; rfl), rfl⟩
  omega
end
def qQ (k : Int) : List UInt8 := if k = 1 then [98, 111, 111, 108] else if k = 2 then [105, 110, 116, 51, 50] else if k = 3 then [105, 110, 116, 54, 52] else if k = 4 then [115, 116, 114, 105, 110, 103] else if k = 5 then [98, 121, 116, 101, 115] else []
section
variable {w : World}
theorem rZ (k : Int) : bF Tryz.prog 135 [I k] w fun v w' => v = str (qQ k) ∧ w = w' := by
 have H := Sep.bB w
 refine dP Tryz.func135 rfl rfl rfl rfl ?_
 refine Sr (Am ?_)
 refine Qn (au (Sr (Mv ?_)))
 refine Qn (aF (Sr (Ve ?_)))
 refine Am ?_
 refine Qn (Cp rfl (fun Pe => ?_) (fun Pe => ?_))
 ·refine Sr (Am ?_)
  refine Qn (Rb (ak (hR := ?_)))
  exact ⟨by unfold qQ; simp only [*, if_true, if_false]; rfl, rfl⟩
 refine Sr (Ve ?_)
 refine Am ?_
 refine Qn (Cp rfl (fun Ia => ?_) (fun Ia => ?_))
 ·refine Sr (Am ?_)
  refine Qn (Rb (ak (hR := ?_)))
  exact ⟨by unfold qQ; simp only [*, if_true, if_false]; rfl, rfl⟩
 refine Sr (Ve ?_)
 refine Am ?_
 refine Qn (Cp rfl (fun Ib => ?_) (fun Ib => ?_))
 ·refine Sr (Am ?_)
  refine Qn (Rb (ak (hR := ?_)))
  exact ⟨by unfold qQ; simp only [*, if_true, if_false]; rfl, rfl⟩
 refine Sr (Ve ?_)
 refine Am ?_
 refine Qn (Cp rfl (fun Ic => ?_) (fun Ic => ?_))
 ·refine Sr (Am ?_)
  refine Qn (Rb (ak (hR := ?_)))
  exact ⟨by unfold qQ; simp only [*, if_true, if_false]; rfl, rfl⟩
 refine Sr (Ve ?_)
 refine Am ?_
 refine Qn (Cp rfl (fun Id => ?_) (fun Id => ?_))
 ·refine Sr (Am ?_)
  refine Qn (Rb (ak (hR := ?_)))
  exact ⟨by unfold qQ; simp only [*, if_true, if_false]; rfl, rfl⟩
 refine aY (aA (aj (Sr (Am ?_))))
 refine Qn (aM (ak (hR := ?_)))
 exact ⟨by unfold qQ; simp only [*, if_true, if_false]; rfl, rfl⟩
theorem VW (l : List UInt8) (hl : l.length ≤ 1000000) : bF Tryz.prog 134 [str l] w fun v w' => v = str (pG l) ∧ Kept noB w w' := by
 have H := Sep.bB w
 refine dP Tryz.func134 rfl rfl rfl rfl ?_
 refine Sr (Am ?_)
 refine Nx (Am ?_)
 refine Qn (au (Sr (Am ?_)))
 refine Qn (aF (bA (fun i : Nat => [(0, str l), (3, str (pG (l.take i))), (4, I i)]) (fun i w' => i ≤ l.length ∧ Sep w noB [] w') (fun i _ => l.length - i) 0 ⟨rfl, rfl, rfl, trivial⟩ ⟨Nat.zero_le _, H⟩ (fun i τ w5 hI => ?_)))
 obtain ⟨hi, H5⟩ := hI
 try simp only [cZ, like, bC, bZ]
 refine au (Sr (Mv ?_))
 refine Mv ?_
 refine Vt ?_
 refine Vl ?_
 refine Qn (Cp rfl (fun Ia => ?_) (fun Ia => ?_))
 ·have bU : i < l.length := by omega
  obtain ⟨c, hc⟩ : ∃ c, c = l.getD i 0 := ⟨_, rfl⟩
  have WE := FZ bU
  rw [← hc] at WE
  have EO := c.toNat_lt
  have UO := qP (l.take i)
  rw [List.length_take] at UO
  refine Sk (au (aF (bG rfl H5 (h := fun Sa wa Ha => ?_))))
  refine Gm Sa 0 ?_
  refine Gm Sa 1 ?_
  refine Gm Sa 2 ?_
  refine Gp Sa 3 rfl rfl (fun _ => (Gives.fF rfl rfl bU)) ?_
  rw [← hc]
  refine Gp Sa 4 rfl rfl (fun _ => (Gives.XK (b := 16) rfl rfl (by omega) (by omega))) (Gm Sa 5 ?_)
  refine Gm Sa 6 ?_
  refine Gp Sa 7 rfl rfl (fun _ => (Gives.fF rfl rfl bU)) ?_
  rw [← hc]
  refine Gp Sa 8 rfl rfl (fun _ => (Gives.XK (b := 16) rfl rfl (by omega) (by omega))) (Gp Sa 9 rfl rfl (fun _ => (Gives.Du (c := ((c.toNat / 16 + 1 : Nat) : Int)) rfl rfl (by rw [Br (by omega)]; omega))) ?_)
  refine Gp Sa 10 rfl rfl (fun _ => (Gives.fE (l := mE) (i := c.toNat / 16) (m := c.toNat / 16 + 1) rfl rfl rfl (by omega) (by show c.toNat / 16 + 1 ≤ 16; omega))) ?_
  rw [xu (by omega)]
  refine Gp Sa 11 rfl rfl (fun _ => (Gives.iW rfl rfl (by first | omega | (simp; done) | (simp; omega)))) ?_
  refine Gm Sa 12 ?_
  refine Gm Sa 13 ?_
  refine Gp Sa 14 rfl rfl (fun _ => (Gives.fF rfl rfl bU)) ?_
  rw [← hc]
  refine Gp Sa 15 rfl rfl (fun _ => (Gives.oO (b := 16) rfl rfl (by omega))) (Gm Sa 16 ?_)
  refine Gm Sa 17 ?_
  refine Gp Sa 18 rfl rfl (fun _ => (Gives.fF rfl rfl bU)) ?_
  rw [← hc]
  refine Gp Sa 19 rfl rfl (fun _ => (Gives.oO (b := 16) rfl rfl (by omega))) (Gp Sa 20 rfl rfl (fun _ => (Gives.Du (c := ((c.toNat % 16 + 1 : Nat) : Int)) rfl rfl (by rw [Br (by omega)]; omega))) ?_)
  refine Gp Sa 21 rfl rfl (fun _ => (Gives.fE (l := mE) (i := c.toNat % 16) (m := c.toNat % 16 + 1) rfl rfl rfl (by omega) (by show c.toNat % 16 + 1 ≤ 16; omega))) ?_
  rw [xu (by omega)]
  refine Gp Sa 22 rfl rfl (fun _ => (Gives.iW rfl rfl (by first | omega | (simp; done) | (simp; omega)))) ?_
  refine rX Sa 23 [] (h := ⟨aK, ?_⟩)
  refine bR Sa (by kernel_rfl) ?_
  refine aA (aj (aB (Mv ?_)))
  refine Vv (Gives.bM rfl rfl rfl (by omega)) (Am ?_)
  refine aP ?_
  exact aC (i + 1) ⟨rfl, by rw [WE, ← List.singleton_append (l := [_]), ← List.append_assoc]; rfl, rfl, trivial⟩ ⟨by omega, Ha⟩ (by omega)
 have jW : i = l.length := by omega
 refine bq (aT (aO (aV (aj (Sr (Mv ?_))))))
 refine Am ?_
 refine Qn (aM (ak (hR := ?_)))
 exact ⟨by rw [jW, List.take_length]; rfl, H5.kept⟩
end
end Go.Proofs.YtolaedhdjcnijaaGreatDoor
