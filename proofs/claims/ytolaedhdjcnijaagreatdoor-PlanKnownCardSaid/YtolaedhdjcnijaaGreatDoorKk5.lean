/-
 The document's cells, walked: hex digits read.
-/
import Derived.Test.YtolaedhdjcnijaaGreatDoorKk4
import Derived.Test.YtolaedhdjcnijaaGreatDoorKk2
import Derived.ArgAppend
set_option linter.unusedVariables false
set_option linter.unusedSimpArgs false
namespace Go.Proofs.YtolaedhdjcnijaaGreatDoor
open Go Go.Mw Go.Lib
set_option maxRecDepth 4000
def oF (c : UInt8) : Int := match gY c with | some d => d | none => -1
theorem Jk {c : UInt8} {d : Nat} (h : gY c = some d) : d < 16 := by
 have := c.toNat_lt
 unfold gY at h
 split at h
 ·injection h with h; omega
 split at h
 ·injection h with h; omega
 cases h
theorem KT {c : UInt8} (h : oF c < 0) : gY c = none := by
 unfold oF at h
 split at h
 ·omega
 assumption
theorem F4 {c : UInt8} (h : ¬ oF c < 0) : ∃ d, gY c = some d ∧ oF c = d ∧ d < 16 := by
 unfold oF at h ⊢
 cases e : gY c with
 | none => rw [e] at h; simp at h
 | some d => exact ⟨d, rfl, rfl, Jk e⟩
theorem VX (c : UInt8) : oF c < 16 := by
 unfold oF
 split
 ·rename_i d e; have := Jk e; omega
 omega
theorem VY {c : UInt8} {i : Nat} (h : i < 16) : ((mE.getD i 0).toNat : Int) = c.toNat ↔ oF c = i := by
 have k1 : ∀ i : Fin 16, oF (mE.getD i.val 0) = i.val := by decide
 constructor
 ·intro e
  have : mE.getD i 0 = c := UInt8.toNat_inj.1 (by omega)
  rw [← this]; exact k1 ⟨i, h⟩
 intro e
 have h0 : ¬ oF c < 0 := by omega
 obtain ⟨d, hd, he, hl⟩ := F4 h0
 have hdi : d = i := by omega
 subst hdi
 have k2 : ∀ d : Fin 16, (mE.getD d.val 0).toNat = if d.val < 10 then 48 + d.val else 87 + d.val := by decide
 have k3 : (mE.getD d 0).toNat = if d < 10 then 48 + d else 87 + d := k2 ⟨d, h⟩
 rw [k3]
 unfold gY at hd
 split at hd
 ·injection hd with hd; split <;> omega
 split at hd
 ·injection hd with hd; split <;> omega
 cases hd
theorem TK (c : UInt8) : (if oF c < ((0 : Nat) : Int) then oF c else -1) = -1 := by
 split
 ·have := KT (by assumption)
  unfold oF; rw [this]
 rfl
def xP : List UInt8 → List UInt8
 | a :: b :: t => ((gY a).getD 0 * 16 + (gY b).getD 0).toUInt8 :: xP t
 | [a] => [((gY a).getD 0 * 16).toUInt8]
 | [] => []
theorem F6 (c : UInt8) : ∀ l : List UInt8, l.length % 2 = 0 → xP (l ++ [c]) = xP l ++ [((gY c).getD 0 * 16).toUInt8]
 | [], _ => rfl
 | [a], h => by simp at h
 | a :: b :: t, h => by
  show _ :: xP (t ++ [c]) = _
  rw [F6 c t (by simp at h; omega)]; rfl
theorem VZ (c : UInt8) : (gY c).getD 0 < 16 := by
 cases e : gY c with
 | none => simp
 | some d => exact Jk e
theorem KU (c : UInt8) : ∀ l : List UInt8, l.length % 2 = 1 → ∃ p x, xP l = p ++ [x] ∧ p.length = l.length / 2 ∧ x.toNat ≤ 240 ∧ xP (l ++ [c]) = p ++ [(x.toNat + (gY c).getD 0).toUInt8]
 | [], h => by simp at h
 | [a], _ => by
  have ha := VZ a
  refine ⟨[], ((gY a).getD 0 * 16).toUInt8, rfl, by simp, ?_, ?_⟩
  ·simp; omega
  show [((gY a).getD 0 * 16 + (gY c).getD 0).toUInt8] = _
  congr 2
  simp; omega
 | a :: b :: t, h => by
  obtain ⟨p, x, h1, h2, h3, h4⟩ := KU c t (by simp at h; omega)
  exact ⟨((gY a).getD 0 * 16 + (gY b).getD 0).toUInt8 :: p, x, by rw [xP, h1]; rfl, by simp; omega, h3, by show _ :: xP (t ++ [c]) = _; rw [h4]; rfl⟩
theorem KV : ∀ l : List UInt8, (xP l).length = (l.length + 1) / 2
 | [] => rfl
 | [a] => by simp [xP]
 | a :: b :: t => by rw [xP, List.length_cons, KV t]; simp; omega
theorem KW : ∀ {l : List UInt8} {c : UInt8}, c ∈ l → gY c = none → gZ l = none
 | [], _, h, _ => by simp at h
 | [a], _, _, _ => rfl
 | a :: b :: t, c, h, e => by
  rw [gZ]
  rcases List.mem_cons.1 h with rfl | h
  ·rw [e]
  rcases List.mem_cons.1 h with rfl | h
  ·rw [e]; cases gY a <;> rfl
  rw [KW h e]; cases gY a <;> cases gY b <;> rfl
theorem F7 : ∀ {l : List UInt8}, l.length % 2 = 0 → (∀ c ∈ l, gY c ≠ none) → gZ l = some (xP l)
 | [], _, _ => rfl
 | [a], h, _ => by simp at h
 | a :: b :: t, h, e => by
  rw [gZ, F7 (l := t) (by simp at h; omega) (fun c hc => e c (by simp [hc]))]
  have ha := e a (by simp)
  have hb := e b (by simp)
  cases h1 : gY a with
  | none => exact absurd h1 ha
  | some x => cases h2 : gY b with
   | none => exact absurd h2 hb
   | some y => simp [xP, h1, h2]
theorem F8 : ∀ {l : List UInt8}, l.length % 2 = 1 → gZ l = none
 | [], h => by simp at h
 | [a], _ => rfl
 | a :: b :: t, h => by
  rw [gZ, F8 (l := t) (by simp at h; omega)]
  cases gY a <;> cases gY b <;> rfl
theorem Qp {l : List UInt8} {i : Nat} (h : i < l.length) : l.take (i + 1) = l.take i ++ [l.getD i 0] := by
 rw [List.take_add_one, List.getElem?_eq_getElem h]
 simp [List.getD_eq_getElem?_getD, List.getElem?_eq_getElem h]
theorem TL {l : List UInt8} {i : Nat} (h : i < l.length) : l.getD i 0 ∈ l := by
 rw [List.getD_eq_getElem?_getD, List.getElem?_eq_getElem h]; exact List.getElem_mem h
section
variable {w : World}
theorem xw (l : List UInt8) (hl : l.length ≤ 1000000) : bF Tryz.prog 198 [str l] w fun v w' => v = .tuple #[str ((gZ l).getD []), .bool (gZ l).isSome] ∧ Kept noB w w' := by
 have H := Sep.bB w
 refine dP Tryz.func198 rfl rfl rfl rfl ?_
 refine Sr (Am ?_)
 refine Am ?_
 refine Qn (au (Sr (Mv ?_)))
 refine Vt ?_
 refine Vv (Gives.oO (b := 2) rfl rfl (by omega)) (Vn ?_)
 refine Qn (Cp rfl (fun oW => ?_) (fun oW => ?_))
 ·have bY : gZ l = none := F8 (by omega)
  refine Sr (Am ?_)
  refine Am ?_
  refine Qn (Rs (ak (hR := ?_)))
  exact ⟨by rw [bY]; rfl, H.kept⟩
 have hev : l.length % 2 = 0 := by omega
 refine Sk (Sr (Am ?_))
 refine Qn (au (Sr (Am ?_)))
 refine Qn (aF ?_)
 have Ha := Sep.zy H 5
 refine bA (fun x : Nat × Value => [(0, str l), (4, x.2), (5, I x.1)]) (fun x w' => (x.1 ≤ l.length ∧ ∀ c ∈ l.take x.1, gY c ≠ none) ∧ Sep w noB [gU 5 x.2 (xP (l.take x.1))] w') (fun x _ => l.length - x.1) (0, _) ⟨rfl, rfl, rfl, trivial⟩ ⟨⟨Nat.zero_le _, by simp⟩, Ha⟩ (fun x τ wa hI => ?_)
 obtain ⟨i, v1⟩ := x
 obtain ⟨⟨hi, fK⟩, Ha⟩ := hI
 dsimp only at hi fK Ha
 try simp only [cZ, like, bC, bZ]
 refine au (Sr (Mv ?_))
 refine Mv ?_
 refine Vt ?_
 refine Vl ?_
 refine Qn (Cp rfl (fun Ia => ?_) (fun Ia => ?_))
 ·have bU : i < l.length := by omega
  obtain ⟨c, hc⟩ : ∃ c, c = l.getD i 0 := ⟨_, rfl⟩
  have YN := Qp bU
  have hme := TL bU
  rw [← hc] at YN hme
  have O8 := KV (l.take i)
  have zV : (l.take i).length = i := by rw [List.length_take]; omega
  rw [zV] at O8
  have EO := c.toNat_lt
  refine Sk (au (aF (Sr (Am ?_))))
  refine Qn (au (Sr (Am ?_)))
  refine Qn (aF (bA (fun k : Nat => [(0, str l), (4, v1), (5, I i), (6, I (if oF c < (k : Int) then oF c else -1)), (7, I k)]) (fun k w' => k ≤ 16 ∧ Sep w noB [gU 5 v1 (xP (l.take i))] w') (fun k _ => 16 - k) 0 ⟨rfl, rfl, rfl, by rw [TK]; rfl, rfl, trivial⟩ ⟨Nat.zero_le _, Ha⟩ (fun k τ wb hI => ?_)))
  obtain ⟨hk, Hb⟩ := hI
  try simp only [cZ, like, bC]
  refine au (Sr (Mv ?_))
  refine Vl ?_
  refine Qn (Cp rfl (fun Ib => ?_) (fun Ib => ?_))
  ·have aat : k < 16 := by omega
   have hat := VY (c := c) aat
   refine Sk (au (aF (au (bG rfl Hb (h := fun Sa wc Hc => ?_)))))
   refine Gm Sa 0 ?_
   refine Gp Sa 1 rfl rfl (fun _ => (Gives.fF (l := mE) rfl rfl aat)) (Gm Sa 2 ?_)
   refine Gm Sa 3 ?_
   refine Gp Sa 4 rfl rfl (fun _ => (Gives.fF rfl rfl bU)) ?_
   rw [← hc]
   refine Gp Sa 5 rfl rfl (fun _ => (Gives.eql rfl rfl)) (bR Sa (by kernel_rfl) ?_)
   refine aj (Cp rfl (fun Ic => ?_) (fun Ic => ?_))
   ·have UJ : (if oF c < ((k + 1 : Nat) : Int) then oF c else -1) = k := by have := hat.1 Ic; rw [if_pos (by omega)]; exact this
    refine aB (Mv ?_)
    refine Am ?_
    refine aP (aA (aj (aB (Mv ?_))))
    refine Vv (Gives.bM rfl rfl rfl (by omega)) (Am ?_)
    refine aP ?_
    exact aC (k + 1) ⟨rfl, rfl, rfl, by rw [UJ]; rfl, rfl, trivial⟩ ⟨by omega, Hc⟩ (by omega)
   have UJ : (if oF c < ((k + 1 : Nat) : Int) then oF c else -1) = (if oF c < (k : Int) then oF c else -1) := by
    have : oF c ≠ k := fun e => Ic (hat.2 e)
    by_cases h : oF c < k
    ·rw [if_pos h, if_pos (by omega)]
    rw [if_neg h, if_neg (by omega)]
   refine aY (aA (aj (aB (Mv ?_))))
   refine Vv (Gives.bM rfl rfl rfl (by omega)) (Am ?_)
   refine aP ?_
   exact aC (k + 1) ⟨rfl, rfl, rfl, by rw [UJ]; rfl, rfl, trivial⟩ ⟨by omega, Hc⟩ (by omega)
  have yQ : (if oF c < (k : Int) then oF c else -1) = oF c := if_pos (by have := VX c; omega)
  rw [yQ]
  refine bq (aT (aO (aV (aj (au (Sr (Mv ?_)))))))
  refine Vl ?_
  refine Qn (Cp rfl (fun Id => ?_) (fun Id => ?_))
  ·have bY : gZ l = none := KW hme (KT Id)
   refine Sr (Am ?_)
   refine Am ?_
   refine Qn (Rs (aH (aL (aR (aH (aL (ak (hR := ?_))))))))
   exact ⟨by rw [bY]; rfl, Hb.kept⟩
  obtain ⟨d, hd, hdI, ad3⟩ := F4 Id
  rw [hdI]
  have hok' : ∀ c' ∈ l.take (i + 1), gY c' ≠ none := by
   intro c' hc'
   rw [YN] at hc'
   rcases List.mem_append.1 hc' with h | h
   ·exact fK c' h
   rw [List.mem_singleton.1 h, hd]; simp
  refine Sk (Sr (Mv ?_))
  refine Vv (Gives.oO (b := 2) rfl rfl (by omega)) (Ve ?_)
  refine Qn (Cp rfl (fun Ie => ?_) (fun Ie => ?_))
  ·have aau := F6 c (l.take i) (by rw [zV]; omega)
   rw [← YN, hd, show ((some d).getD 0 * 16).toUInt8 = (16 * (d : Int)).toNat.toUInt8 by simp only [Option.getD_some]; congr 1; omega] at aau
   refine aB (Mv ?_)
   refine Mv ?_
   refine Vv (Gives.Rp rfl rfl rfl (by omega)) (Vv (Gives.ji (a := 16 * (d : Int)) rfl (by omega)) ?_)
   refine aX Hb (xs := [.tmp 37]) (out := [((16 * (d : Int)).toNat.toUInt8)].map B) (aU.one rfl rfl aU.nil) rfl rfl rfl (fun b wd Hd _ => ?_)
   refine fq Hd (news := [((16 * (d : Int)).toNat.toUInt8)]) At0 (by simp; omega) (h := fun v2 we He => ?_)
   refine Am ?_
   refine aP (aA (aj (aB (Mv ?_))))
   refine Vv (Gives.bM rfl rfl rfl (by omega)) (Am ?_)
   refine aP ?_
   exact aC (i + 1, v2) ⟨rfl, rfl, rfl, trivial⟩ ⟨⟨by dsimp only; omega, hok'⟩, by dsimp only; rw [aau]; exact He⟩ (by dsimp only; omega)
  obtain ⟨p, x, hp1, hp2, hx, hp3⟩ := KU c (l.take i) (by rw [zV]; omega)
  rw [← YN, hd, Option.getD_some] at hp3
  have UR : (p ++ [(x.toNat + d).toUInt8]).length = (p ++ [x]).length := by simp
  rw [zV] at hp2
  rw [hp1] at Hb
  obtain ⟨g, cg, rest, ZW, hcg, hlg, rG, yU, Hf⟩ := Sep.Je Hb At0 (by simp)
  subst ZW
  have abW : ((p ++ [x]).map B ++ rest)[i / 2]? = some (B x) := by
   rw [List.getElem?_append_left (by simp; omega), List.map_append, List.getElem?_append_right (by simp; omega)]
   simp [hp2]
  refine aB (Mv ?_)
  refine Mv ?_
  refine Vv (Gives.xO (b := 2) rfl rfl (by omega) (by omega)) (Mv ?_)
  refine Mv ?_
  refine Vv (Gives.xO (b := 2) rfl rfl (by omega) (by omega)) (Vv (Gives.Zw (i := i / 2) rfl rfl (by simp; omega)) ?_)
  refine Oo Hf (hat := At0) (hv := abW) (h := ?_)
  refine Mv ?_
  refine Vv (Gives.jd (k := .u8) (c := (d : Int)) rfl (Br (by omega))) (Vv (Gives.Du (c := ((x.toNat + d).toUInt8.toNat : Int)) rfl rfl (by rw [Br (by omega)]; simp; omega)) ?_)
  refine Vv (Gives.Zw (i := i / 2) rfl rfl (by simp; omega)) ?_
  have AJ : ((p ++ [x]).map B ++ rest).set (i / 2) (B (x.toNat + d).toUInt8) = (p ++ [(x.toNat + d).toUInt8]).map B ++ rest := by
   rw [FK (by simp; omega), List.map_append, List.set_append_right _ _ (by simp; omega)]
   simp [hp2]
  refine bW Hf (hy := by exact rfl) (hat := At0) (ho := by rw [List.length_append, List.length_map]; exact Nat.ble_eq_true_of_le (by simp; omega)) (hs := AJ) (h := fun wf Hg => ?_)
  refine aP (aA (aj (aB (Mv ?_))))
  refine Vv (Gives.bM rfl rfl rfl (by omega)) (Am ?_)
  refine aP ?_
  exact aC (i + 1, .slice (some ⟨g, 0, none⟩) (p ++ [x]).length cg) ⟨rfl, rfl, rfl, trivial⟩ ⟨⟨by dsimp only; omega, hok'⟩, by dsimp only; rw [hp3]; unfold gU; rw [UR]; refine Sep.Jf Hg At0 ?_ ?_ rG yU <;> simp at * <;> omega⟩ (by dsimp only; omega)
 have jW : i = l.length := by omega
 rw [jW, List.take_length] at fK Ha
 have bY : gZ l = some (xP l) := F7 hev fK
 refine bq (aT (aO (aV (aj (Sr (Mv ?_))))))
 refine Vv (Gives.Jg Ha At0 rfl) (Am ?_)
 refine Am ?_
 refine Qn (aM (ak (hR := ?_)))
 exact ⟨by rw [bY]; rfl, Ha.kept⟩
end
end Go.Proofs.YtolaedhdjcnijaaGreatDoor
namespace Go.Mw
open Go.RowKit
def adr (A : Option Addr) (o : Nat) : Value := .pointer (A.map (·.add o))
class jU {α : Type} (enc : α → List Value) (k : outParam Nat) : Prop where
 len : ∀ x, (enc x).length = k
def Rd {α : Type} (w : World) (A : Option Addr) (enc : α → List Value) (k : Nat) (l : List α) : Prop := iI w A l.length k (l.flatMap enc)
section
variable {α : Type} {enc : α → List Value} {k : Nat} {l : List α} {A : Option Addr} {w w' w₀ : World}
theorem flat_get (hk : ∀ x, (enc x).length = k) : ∀ {l : List α} {i j : Nat} {c : α}, l[i]? = some c → j < k → (l.flatMap enc)[i * k + j]? = (enc c)[j]?
 | [], _, _, _, h, _ => by simp at h
 | a :: l, 0, j, c, h, hj => by
  simp only [List.getElem?_cons_zero, Option.some.injEq] at h
  subst h
  rw [List.flatMap_cons, Nat.zero_mul, Nat.zero_add, List.getElem?_append_left (by rw [hk]; exact hj)]
 | a :: l, i + 1, j, c, h, hj => by
  simp only [List.getElem?_cons_succ] at h
  rw [List.flatMap_cons, List.getElem?_append_right (by rw [hk, Nat.succ_mul]; omega), hk, Nat.succ_mul]
  rw [show i * k + k + j - k = i * k + j by omega]
  exact flat_get hk h hj
theorem jT (hk : ∀ x, (enc x).length = k) : ∀ l : List α, (l.flatMap enc).length = l.length * k
 | [] => by simp
 | a :: l => by rw [List.flatMap_cons, List.length_append, hk, jT hk l, List.length_cons, Nat.succ_mul]; omega
theorem Rd.keep (h : Rd w A enc k l) (hk : Kept noB w w') : Rd w' A enc k l := iI.keep h hk
theorem Rd.addr (h : Rd w A enc k l) (hn : 0 < l.length) : ∃ ad, A = some ad := by
 obtain ⟨ad, h1, _⟩ := h.at_ hn
 exact ⟨ad, h1⟩
theorem iE {i : Nat} {c : α} (h : l[i]? = some c) : i < l.length := (List.getElem?_eq_some_iff.1 h).1
theorem Rd.cell [hk : jU enc k] {i f : Nat} {c : α} {v : Value} (h : Rd w A enc k l) (hg : l[i]? = some c) (hv : (enc c)[f]? = some v) : ∃ ad, A = some ad ∧ w.cell? (ad.add (i * k + f)) = some v := by
 have hl := iE hg
 obtain ⟨ad, h1, h2⟩ := h.at_ (by omega)
 refine ⟨ad, h1, h2 _ _ ?_⟩
 rw [flat_get hk.len hg (by rw [← hk.len c]; exact iE hv)]
 exact hv
end
section
variable {P : Program} {ρ : Operand → Value} {ty : TypeId} {w w₀ : World} {x y : Operand} {α : Type} {enc : α → List Value} {k : Nat} {l : List α} {A : Option Addr} {rs : List HP}
theorem Gives.eT {t e : TypeId} [ht : dA P t e] {bytes : Nat} [hc : Cells P e k bytes] {c i : Nat} {j : IntKind} (hx : ρ x = .slice A l.length c) (hy : ρ y = .int j i) (hr : Rd w₀ A enc k l) (bU : i < l.length) : Gives P ρ (.indexAddr t x y) ty w (adr A (i * k)) w := by
 obtain ⟨ad, rfl⟩ := hr.addr (by omega)
 exact Gives.idx hx hy bU
theorem Gives.fH {s f g o : Nat} [h : dZ P s f g] (hx : ρ x = adr A o) (hr : Rd w₀ A enc k l) (bU : 0 < l.length) : Gives P ρ (.fieldAddr s x f) ty w (adr A (o + g)) w := by
 obtain ⟨ad, rfl⟩ := hr.addr bU
 exact Gives.XF hx
theorem Gives.iJ [hk : jU enc k] {i f : Nat} {c : α} {v : Value} {T : TypeId} [OneCell P T] (hx : ρ x = adr A (i * k + f)) (H : Sep w₀ noB rs w) (hr : Rd w₀ A enc k l) (hg : l[i]? = some c) (hv : (enc c)[f]? = some v) : Gives P ρ (.load T x) ty w v w := by
 obtain ⟨ad, rfl, h2⟩ := (hr.keep H.kept).cell hg hv
 exact Gives.WV hx h2
theorem Gives.Jl [hk : jU enc k] {i : Nat} {c : α} {v : Value} {T : TypeId} [OneCell P T] (hx : ρ x = adr A (i * k)) (H : Sep w₀ noB rs w) (hr : Rd w₀ A enc k l) (hg : l[i]? = some c) (hv : (enc c)[0]? = some v) : Gives P ρ (.load T x) ty w v w :=
 Gives.iJ (f := 0) hx H hr hg hv
theorem Gives.Dw [hk : jU enc k] {i f n : Nat} {c : α} {us : List Value} {T : TypeId} [Agg P T n] (hx : ρ x = adr A (i * k + f)) (H : Sep w₀ noB rs w) (hr : Rd w₀ A enc k l) (hg : l[i]? = some c) (hu : ((enc c).drop f).take n = us) (hn : us.length = n) : Gives P ρ (.load T x) ty w (.agg us.toArray) w := by
 obtain ⟨ad, h1⟩ := hr.addr (by have := iE hg; omega)
 subst h1
 refine Gives.XJ (a := ad.add (i * k + f)) hx (fun j u hj => ?_) hn
 have hv : (enc c)[f + j]? = some u := by
  rw [← hu, List.getElem?_take] at hj
  split at hj
  ·rw [List.getElem?_drop] at hj; exact hj
  cases hj
 obtain ⟨ad', h1, h2⟩ := (hr.keep H.kept).cell hg hv
 injection h1 with h1
 subst h1
 rw [add_add, Nat.add_assoc]; exact h2
theorem Gives.iM [hk : jU enc k] {i : Nat} {c : α} {T : TypeId} [Agg P T k] (hx : ρ x = adr A (i * k)) (H : Sep w₀ noB rs w) (hr : Rd w₀ A enc k l) (hg : l[i]? = some c) : Gives P ρ (.load T x) ty w (.agg (enc c).toArray) w :=
 Gives.Dw (f := 0) hx H hr hg (by rw [List.drop_zero, ← hk.len c, List.take_length]) (hk.len c)
end
section
variable {P : Program} {w w₀ : World} {S : Nat → Prop} {rs : List HP} {put : HP → List HP} {σ : St} {R : Value → World → Prop} {us : List Value} {a b k E : Nat} {T : TypeId}
theorem gB [Agg P T k] (H : Sep w₀ S rs w) (hx : σ a = .pointer (some ⟨b, 0, none⟩) := by exact rfl) (hat : At rs (blk b us E) put := by first | exact At0 | exact At1 | exact At2 | exact At3 | exact At4 | exact At5 | exact At6 | exact At7 | exact At8 | exact At9) (hk : us.length = k := by exact rfl) :
    nJ P σ w [.cell a T] [.agg us.toArray] :=
  ⟨_, _, _, rfl, hx, jw (k := k) (H.obj hat) (us := us) (by rw [List.drop_zero, ← hk, List.take_length]) hk, rfl⟩
theorem dQ [Agg P T k] {t : Nat} {v : Value} (H : Sep w₀ S rs w) (hx : σ a = .pointer (some ⟨b, 0, none⟩) := by exact rfl) (hat : At rs (blk b us E) put := by first | exact At0 | exact At1 | exact At2 | exact At3 | exact At4 | exact At5 | exact At6 | exact At7 | exact At8 | exact At9) (hk : us.length = k := by exact rfl) (hv : σ t = v := by exact rfl) :
    nJ P σ w [.cell a T, .tmp t] [.agg us.toArray, v] :=
  ⟨_, _, _, rfl, hx, jw (k := k) (H.obj hat) (us := us) (by rw [List.drop_zero, ← hk, List.take_length]) hk, _, by subst hv; rfl, rfl⟩
end
end Go.Mw
namespace Go.Proofs.YtolaedhdjcnijaaGreatDoor
open Go Go.Mw
instance : jU aJ 2 := ⟨fun _ => rfl⟩
instance : jU bK 3 := ⟨fun _ => rfl⟩
instance : jU aI 3 := ⟨fun _ => rfl⟩
instance : jU bE 7 := ⟨fun _ => rfl⟩
def dn {α : Type} (w : World) (v : Value) (enc : α → List Value) (k : Nat) (l : List α) : Prop := ∃ A c, v = .slice A l.length c ∧ (l.length ≤ c ∧ c ≤ 9223372036854775807) ∧ Rd w A enc k l
theorem dn.keep {α : Type} {w w' : World} {v : Value} {enc : α → List Value} {k : Nat} {l : List α} (h : dn w v enc k l) (hk : Kept noB w w') : dn w' v enc k l := by
 obtain ⟨A, c, h1, h2, h3⟩ := h
 exact ⟨A, c, h1, h2, h3.keep hk⟩
end Go.Proofs.YtolaedhdjcnijaaGreatDoor
namespace Go.Proofs.YtolaedhdjcnijaaGreatDoor
open Go Go.Mw Go.Lib
set_option maxRecDepth 4000
theorem get_some {α : Type} {l : List α} {i : Nat} (h : i < l.length) : ∃ c, l[i]? = some c := ⟨l[i], List.getElem?_eq_getElem h⟩
attribute [local irreducible] jE
section
variable {w : World}
end
def fP (kind : Int) : Nat := if 1 ≤ kind ∧ kind ≤ 6 then 0 else if kind = 10 ∨ kind = 15 ∨ kind = 16 ∨ kind = 18 then 1 else 2
theorem F9 {x : bL} (h : dI x = true) : fP x.kind = gD x.kind := by
 have hk : 1 ≤ x.kind := by
  unfold dI at h
  repeat' split at h
  all_goals first | omega | (have := of_decide_eq_true h; omega)
 unfold fP gD
 by_cases h7 : x.kind < 7
 ·rw [if_pos (by omega), if_pos h7]
 rw [if_neg (by omega), if_neg h7]
section
variable {w : World}
theorem Ns (k : Int) : bF Tryz.prog 111 [I k] w fun v w' => v = I (fP k) ∧ w = w' := by
 have H := Sep.bB w
 refine dP Tryz.func111 rfl rfl rfl rfl ?_
 refine Sr (Am ?_)
 refine Qn (au (Sr (Mv ?_)))
 refine Qn (aF (au (Sr (Ve ?_))))
 refine Am ?_
 refine Qn (Cp rfl (fun Pe => ?_) (fun Pe => ?_))
 ·refine Sk (aQ (congrArg Value.bool (decide_eq_true Pe)) ?_)
  refine Sr (Am ?_)
  refine Qn (Rb (ak (hR := ?_)))
  exact ⟨by unfold fP; rw [if_pos (by omega)]; rfl, rfl⟩
 refine Sr (Ve ?_)
 refine Am ?_
 refine Qn (Cp rfl (fun Ia => ?_) (fun Ia => ?_))
 ·refine Sk (aQ (congrArg Value.bool (decide_eq_true Ia)) ?_)
  refine Sr (Am ?_)
  refine Qn (Rb (ak (hR := ?_)))
  exact ⟨by unfold fP; rw [if_pos (by omega)]; rfl, rfl⟩
 refine Sr (Ve ?_)
 refine Am ?_
 refine Qn (Cp rfl (fun Ib => ?_) (fun Ib => ?_))
 ·refine Sk (aQ (congrArg Value.bool (decide_eq_true Ib)) ?_)
  refine Sr (Am ?_)
  refine Qn (Rb (ak (hR := ?_)))
  exact ⟨by unfold fP; rw [if_pos (by omega)]; rfl, rfl⟩
 refine Sr (Ve ?_)
 refine Am ?_
 refine Qn (Cp rfl (fun Ic => ?_) (fun Ic => ?_))
 ·refine Sk (aQ (congrArg Value.bool (decide_eq_true Ic)) ?_)
  refine Sr (Am ?_)
  refine Qn (Rb (ak (hR := ?_)))
  exact ⟨by unfold fP; rw [if_pos (by omega)]; rfl, rfl⟩
 refine Sr (Ve ?_)
 refine Am ?_
 refine Qn (Cp rfl (fun Id => ?_) (fun Id => ?_))
 ·refine Sk (aQ (congrArg Value.bool (decide_eq_true Id)) ?_)
  refine Sr (Am ?_)
  refine Qn (Rb (ak (hR := ?_)))
  exact ⟨by unfold fP; rw [if_pos (by omega)]; rfl, rfl⟩
 refine aB (Ve ?_)
 refine Am ?_
 refine Qn (Cp rfl (fun Ie => ?_) (fun Ie => ?_))
 ·refine Sr (Am ?_)
  refine Qn (Rb (ak (hR := ?_)))
  exact ⟨by unfold fP; rw [if_pos (by omega)]; rfl, rfl⟩
 refine au (Sr (Ve ?_))
 refine Am ?_
 refine Qn (Cp rfl (fun If => ?_) (fun If => ?_))
 ·refine Sk (aQ (congrArg Value.bool (decide_eq_true If)) ?_)
  refine Sr (Am ?_)
  refine Qn (Rb (ak (hR := ?_)))
  exact ⟨by unfold fP; rw [if_neg (by omega), if_pos (by omega)]; rfl, rfl⟩
 refine Sr (Ve ?_)
 refine Am ?_
 refine Qn (Cp rfl (fun Ig => ?_) (fun Ig => ?_))
 ·refine Sk (aQ (congrArg Value.bool (decide_eq_true Ig)) ?_)
  refine Sr (Am ?_)
  refine Qn (Rb (ak (hR := ?_)))
  exact ⟨by unfold fP; rw [if_neg (by omega), if_pos (by omega)]; rfl, rfl⟩
 refine Sr (Ve ?_)
 refine Am ?_
 refine Qn (Cp rfl (fun Ih => ?_) (fun Ih => ?_))
 ·refine Sk (aQ (congrArg Value.bool (decide_eq_true Ih)) ?_)
  refine Sr (Am ?_)
  refine Qn (Rb (ak (hR := ?_)))
  exact ⟨by unfold fP; rw [if_neg (by omega), if_pos (by omega)]; rfl, rfl⟩
 refine aB (Ve ?_)
 refine Am ?_
 refine Qn (Cp rfl (fun Ii => ?_) (fun Ii => ?_))
 ·refine Sr (Am ?_)
  refine Qn (Rb (ak (hR := ?_)))
  exact ⟨by unfold fP; rw [if_neg (by omega), if_pos (by omega)]; rfl, rfl⟩
 refine aY (aA (aj (Sr (Am ?_))))
 refine Qn (aM (ak (hR := ?_)))
 exact ⟨by unfold fP; rw [if_neg (by omega), if_neg (by omega)]; rfl, rfl⟩
theorem xA (x : bL) : bF Tryz.prog 85 [agg (aI x)] w fun v w' => v = .bool (dI x) ∧ Kept noB w w' := by
 have H := Sep.bB w
 refine dP Tryz.func85 rfl rfl rfl rfl ?_
 refine Sr (dz H (h := fun b1 w2 H2 k1 => ?_))
 refine Am ?_
 refine Qn (au (Sr (Vf ?_)))
 refine Ld H2 ?_
 refine Qn (aF (Sr (Ve ?_)))
 refine Am ?_
 refine Qn (Cp rfl (fun xL => ?_) (fun xL => ?_))
 ·refine Sr (Vf ?_)
  refine Ld H2 ?_
  refine Vv (Gives.iD rfl rfl) (Mv ?_)
  refine aG (t := 10) rfl (fun Sa => ?_) (fun Sa => ?_)
  ·refine On (Vf ?_)
   refine On (Ld H2 ?_)
   refine On (Vv (Gives.geq rfl rfl) (Pt ?_))
   refine Mv ?_
   refine aG (t := 15) rfl (fun Sb => ?_) (fun Sb => ?_)
   ·refine On (Vf ?_)
    refine On (Ld H2 ?_)
    refine On (Vv (Gives.leq rfl rfl) (Pt ?_))
    refine Am ?_
    refine Qn (Rb (ak (hR := ?_)))
    exact ⟨mh (by first | (unfold dI; simp_all; done) | (simp_all; done) | (unfold dI; simp_all; omega)), H2.kept⟩
   refine Of (Of (Of (Pf ?_)))
   refine Am ?_
   refine Qn (Rb (ak (hR := ?_)))
   exact ⟨mh (by first | (unfold dI; simp_all; done) | (simp_all; done) | (unfold dI; simp_all; omega)), H2.kept⟩
  refine Of (Of (Of (Pf ?_)))
  refine Mv ?_
  refine Of (Of (Of (Pf ?_)))
  refine Am ?_
  refine Qn (Rb (ak (hR := ?_)))
  exact ⟨mh (by first | (unfold dI; simp_all; done) | (simp_all; done) | (unfold dI; simp_all; omega)), H2.kept⟩
 refine Sr (Ve ?_)
 refine Am ?_
 refine Qn (Cp rfl (fun Ia => ?_) (fun Ia => ?_))
 ·refine Sr (Vf ?_)
  refine Ld H2 ?_
  refine Vv (Gives.iD rfl rfl) (Am ?_)
  refine Qn (Rb (ak (hR := ?_)))
  exact ⟨mh (by first | (unfold dI; simp_all; done) | (simp_all; done) | (unfold dI; simp_all; omega)), H2.kept⟩
 refine Sr (Ve ?_)
 refine Am ?_
 refine Qn (Cp rfl (fun Ib => ?_) (fun Ib => ?_))
 ·refine Sr (Vf ?_)
  refine Ld H2 ?_
  refine Vv (Gives.iD rfl rfl) (Mv ?_)
  refine aG (t := 30) rfl (fun Sc => ?_) (fun Sc => ?_)
  ·refine On (Vf ?_)
   refine On (Ld H2 ?_)
   refine On (Vv (Gives.geq rfl rfl) (Pt ?_))
   refine Mv ?_
   refine aG (t := 35) rfl (fun Sd => ?_) (fun Sd => ?_)
   ·refine On (Vf ?_)
    refine On (Ld H2 ?_)
    refine On (Vv (Gives.leq rfl rfl) (Pt ?_))
    refine Am ?_
    refine Qn (Rb (ak (hR := ?_)))
    exact ⟨mh (by first | (unfold dI; simp_all; done) | (simp_all; done) | (unfold dI; simp_all; omega)), H2.kept⟩
   refine Of (Of (Of (Pf ?_)))
   refine Am ?_
   refine Qn (Rb (ak (hR := ?_)))
   exact ⟨mh (by first | (unfold dI; simp_all; done) | (simp_all; done) | (unfold dI; simp_all; omega)), H2.kept⟩
  refine Of (Of (Of (Pf ?_)))
  refine Mv ?_
  refine Of (Of (Of (Pf ?_)))
  refine Am ?_
  refine Qn (Rb (ak (hR := ?_)))
  exact ⟨mh (by first | (unfold dI; simp_all; done) | (simp_all; done) | (unfold dI; simp_all; omega)), H2.kept⟩
 refine Sr (Ve ?_)
 refine Am ?_
 refine Qn (Cp rfl (fun Ic => ?_) (fun Ic => ?_))
 ·refine Sr (Vf ?_)
  refine Ld H2 ?_
  refine Ve ?_
  refine Mv ?_
  refine aG (t := 45) rfl (fun Se => ?_) (fun Se => ?_)
  ·refine On (Vf ?_)
   refine On (Ld H2 ?_)
   refine On (Vt ?_)
   refine On (Vv (Gives.leq rfl rfl) (Pt ?_))
   refine Mv ?_
   refine aG (t := 51) rfl (fun Sf => ?_) (fun Sf => ?_)
   ·refine On (Vf ?_)
    refine On (Ld H2 ?_)
    refine On (aN H2 (FX x.s (by omega)) (h := fun wa Ha _ => ?_))
    refine Pt ?_
    refine Am ?_
    refine Qn (Rb (ak (hR := ?_)))
    exact ⟨mh (by first | (unfold dI; simp_all; done) | (simp_all; done) | (unfold dI; simp_all; omega)), Ha.kept⟩
   refine Of (Of (Of (Pf ?_)))
   refine Am ?_
   refine Qn (Rb (ak (hR := ?_)))
   exact ⟨mh (by first | (unfold dI; simp_all; done) | (simp_all; done) | (unfold dI; simp_all; omega)), H2.kept⟩
  refine Of (Of (Of (Of (Pf ?_))))
  refine Mv ?_
  refine Of (Of (Of (Pf ?_)))
  refine Am ?_
  refine Qn (Rb (ak (hR := ?_)))
  exact ⟨mh (by first | (unfold dI; simp_all; done) | (simp_all; done) | (unfold dI; simp_all; omega)), H2.kept⟩
 refine Sr (Ve ?_)
 refine Am ?_
 refine Qn (Cp rfl (fun Id => ?_) (fun Id => ?_))
 ·refine Sr (Vf ?_)
  refine Ld H2 ?_
  refine Ve ?_
  refine Mv ?_
  refine aG (t := 61) rfl (fun Sg => ?_) (fun Sg => ?_)
  ·refine On (Vf ?_)
   refine On (Ld H2 ?_)
   refine On (Vt ?_)
   refine On (Vv (Gives.leq rfl rfl) (Pt ?_))
   refine Am ?_
   refine Qn (Rb (ak (hR := ?_)))
   exact ⟨mh (by first | (unfold dI; simp_all; done) | (simp_all; done) | (unfold dI; simp_all; omega)), H2.kept⟩
  refine Of (Of (Of (Of (Pf ?_))))
  refine Am ?_
  refine Qn (Rb (ak (hR := ?_)))
  exact ⟨mh (by first | (unfold dI; simp_all; done) | (simp_all; done) | (unfold dI; simp_all; omega)), H2.kept⟩
 refine Sr (Ve ?_)
 refine Am ?_
 refine Qn (Cp rfl (fun Ie => ?_) (fun Ie => ?_))
 ·refine Sr (Vf ?_)
  refine Ld H2 ?_
  refine Vv (Gives.iD rfl rfl) (Mv ?_)
  refine aG (t := 72) rfl (fun Sh => ?_) (fun Sh => ?_)
  ·refine On (Vf ?_)
   refine On (Ld H2 ?_)
   refine On (Ve ?_)
   refine On (Mv ?_)
   refine aG (t := 76) rfl (fun Si => ?_) (fun Si => ?_)
   ·refine Of (Of (Of (Of (Ou (Ou (Ou (Of (On (Pt ?_)))))))))
    refine Pt ?_
    refine Am ?_
    refine Qn (Rb (ak (hR := ?_)))
    exact ⟨mh (by first | (unfold dI; simp_all; done) | (simp_all; done) | (unfold dI; simp_all; omega)), H2.kept⟩
   refine On (Vf ?_)
   refine On (Ld H2 ?_)
   refine On (Vv (Gives.geq rfl rfl) (On ?_))
   refine Mv ?_
   refine aG (t := 80) rfl (fun Sj => ?_) (fun Sj => ?_)
   ·refine On (Vf ?_)
    refine On (Ld H2 ?_)
    refine On (Vv (Gives.leq rfl rfl) (On ?_))
    refine Pt ?_
    refine On (Pf ?_)
    refine Pt ?_
    refine Am ?_
    refine Qn (Rb (ak (hR := ?_)))
    exact ⟨mh (by first | (unfold dI; simp_all; done) | (simp_all; done) | (unfold dI; simp_all; omega)), H2.kept⟩
   refine Of (Of (Of (On (Pf ?_))))
   refine On (Pf ?_)
   refine Pt ?_
   refine Am ?_
   refine Qn (Rb (ak (hR := ?_)))
   exact ⟨mh (by first | (unfold dI; simp_all; done) | (simp_all; done) | (unfold dI; simp_all; omega)), H2.kept⟩
  refine Of (Of (Of (Of (Ou (Ou (Ou (Ou (Ou (Ou (Ou (Ou (Of (Pf ?_)))))))))))))
  refine Am ?_
  refine Qn (Rb (ak (hR := ?_)))
  exact ⟨mh (by first | (unfold dI; simp_all; done) | (simp_all; done) | (unfold dI; simp_all; omega)), H2.kept⟩
 refine aY (aA (aj (Sr (Vf ?_))))
 refine Ld H2 ?_
 refine Vv (Gives.geq rfl rfl) (Mv ?_)
 refine aG (t := 90) rfl (fun Sl => ?_) (fun Sl => ?_)
 ·refine On (Vf ?_)
  refine On (Ld H2 ?_)
  refine On (Vv (Gives.leq rfl rfl) (Pt ?_))
  refine Mv ?_
  refine aG (t := 95) rfl (fun Sm => ?_) (fun Sm => ?_)
  ·refine On (Vf ?_)
   refine On (Ld H2 ?_)
   refine On (Ve ?_)
   refine Pt ?_
   refine Mv ?_
   refine aG (t := 100) rfl (fun Sn => ?_) (fun Sn => ?_)
   ·refine On (Vf ?_)
    refine On (Ld H2 ?_)
    refine On (Vv (Gives.iD rfl rfl) (Pt ?_))
    refine Am ?_
    refine Qn (aM (ak (hR := ?_)))
    exact ⟨mh (by first | (unfold dI; simp_all; done) | (simp_all; done) | (unfold dI; simp_all; omega)), H2.kept⟩
   refine Of (Of (Of (Pf ?_)))
   refine Am ?_
   refine Qn (aM (ak (hR := ?_)))
   exact ⟨mh (by first | (unfold dI; simp_all; done) | (simp_all; done) | (unfold dI; simp_all; omega)), H2.kept⟩
  refine Of (Of (Of (Pf ?_)))
  refine Mv ?_
  refine Of (Of (Of (Pf ?_)))
  refine Am ?_
  refine Qn (aM (ak (hR := ?_)))
  exact ⟨mh (by first | (unfold dI; simp_all; done) | (simp_all; done) | (unfold dI; simp_all; omega)), H2.kept⟩
 refine Of (Of (Of (Pf ?_)))
 refine Mv ?_
 refine Of (Of (Of (Pf ?_)))
 refine Mv ?_
 refine Of (Of (Of (Pf ?_)))
 refine Am ?_
 refine Qn (aM (ak (hR := ?_)))
 exact ⟨mh (by first | (unfold dI; simp_all; done) | (simp_all; done) | (unfold dI; simp_all; omega)), H2.kept⟩
end
def EF (cols : List gG) (n : Int) : Int := match nS cols n with | some i => i | none => -1
theorem Qq {cols : List gG} {n : Int} (h : ∀ (j : Nat) a, cols[j]? = some a → a.id ≠ n) : nS cols n = none := by
 unfold nS
 rw [List.findIdx?_eq_none_iff]
 intro a ha
 obtain ⟨j, hj⟩ := List.getElem?_of_mem ha
 simpa using h j a hj
theorem Qr {cols : List gG} {n : Int} {i : Nat} {a : gG} (hi : cols[i]? = some a) (he : a.id = n) (h : ∀ (j : Nat) a, j < i → cols[j]? = some a → a.id ≠ n) : nS cols n = some i := by
 have hl := iE hi
 have hia : cols[i] = a := by rw [List.getElem?_eq_getElem hl] at hi; injection hi
 unfold nS
 rw [List.findIdx?_eq_some_iff_getElem]
 refine ⟨hl, by simp [hia, he], fun j hj => ?_⟩
 have := h j cols[j] hj (List.getElem?_eq_getElem (by omega))
 simpa using this
theorem TM {cols : List gG} {n : Int} (h : EF cols n < 0) : nS cols n = none := by
 unfold EF at h
 split at h
 ·omega
 assumption
theorem Qs {cols : List gG} {n : Int} (h : ¬ EF cols n < 0) : ∃ i, nS cols n = some i ∧ EF cols n = (i : Int) := by
 unfold EF at h ⊢
 cases e : nS cols n with
 | none => rw [e] at h; simp at h
 | some i => exact ⟨i, rfl, rfl⟩
theorem OV {cols : List gG} {n : Int} {i : Nat} (h : nS cols n = some i) : i < cols.length := by
 unfold nS at h
 rw [List.findIdx?_eq_some_iff_getElem] at h
 exact h.1
section
variable {w : World}
theorem KX {cols : List gG} {vc : Value} (n : Int) (hc : dn w vc bE 7 cols) : bF Tryz.prog 156 [vc, I n] w fun v w' => v = I (EF cols n) ∧ Kept noB w w' := by
  obtain ⟨A, m, rfl, ⟨hm, xK⟩, hA⟩ := hc
  have H := Sep.bB w
  refine eU Tryz.func156 rfl rfl rfl rfl ?_
  refine Sr (Am ?_)
  refine Qn (au (Sr (Am ?_)))
  refine Qn (aF (bA (fun i : Nat => [(0, .slice A cols.length m), (1, I n), (5, I i)]) (fun i w' => (i ≤ cols.length ∧ ∀ (j : Nat) a, j < i → cols[j]? = some a → a.id ≠ n) ∧ Sep w noB [] w') (fun i _ => cols.length - i) 0 ⟨rfl, rfl, rfl, trivial⟩ ⟨⟨Nat.zero_le _, fun j a hj => by omega⟩, H⟩ (fun i τ w4 hI => ?_)))
  obtain ⟨⟨hi, dJ⟩, H4⟩ := hI
  try simp only [cZ, like, bC, bZ]
  refine au (Sr (Mv ?_))
  refine Mv ?_
  refine Vs ?_
  refine Vl ?_
  refine Qn (Cp rfl (fun JI => ?_) (fun JI => ?_))
  · have bU : i < cols.length := by omega
    obtain ⟨a, ha⟩ := get_some bU
    refine Sk (au (aF (Sr (Mv ?_))))
    refine Mv ?_
    refine Vv (Gives.eT rfl rfl (by assumption) (by omega)) (Vv (Gives.fH rfl (by assumption) (by omega)) ?_)
    refine Vv (Gives.iJ rfl H4 (by assumption) (by assumption) rfl) (Mv ?_)
    refine Ve ?_
    refine Qn (Cp rfl (fun Ia => ?_) (fun Ia => ?_))
    · have bY : EF cols n = i := by
        unfold EF
        rw [Qr ha Ia dJ]
      refine Sr (Mv ?_)
      refine Am ?_
      refine Qn (Rb (aR (aH (aL (ak (hR := ?_))))))
      exact ⟨by rw [bY]; rfl, H4.kept⟩
    have hst' : ∀ (j : Nat) a, j < i + 1 → cols[j]? = some a → a.id ≠ n := by
      intro j b hj hb
      rcases Nat.lt_or_ge j i with h | h
      · exact dJ j b h hb
      have : j = i := by omega
      subst this
      rw [ha] at hb; injection hb with hb; subst hb; exact Ia
    refine aY (aA (aj (aB (Mv ?_))))
    refine Vv (Gives.bM rfl rfl rfl (by omega)) (Am ?_)
    refine aP ?_
    exact aC (i + 1) ⟨rfl, rfl, rfl, trivial⟩ ⟨⟨by omega, hst'⟩, H4⟩ (by omega)
  have bY : EF cols n = -1 := by
    unfold EF
    rw [Qq fun j a hj => dJ j a (by have := iE hj; omega) hj]
  refine bq (aT (aO (aV (aj (Sr (Am ?_))))))
  refine Qn (aM (ak (hR := ?_)))
  exact ⟨by rw [bY]; rfl, H4.kept⟩
end
attribute [local irreducible] nL
section
variable {w : World}
theorem Qt {cols : List gG} {vc : Value} (x : bL) (hc : dn w vc bE 7 cols) : bF Tryz.prog 112 [vc, agg (aI x)] w fun v w' => v = .tuple #[agg (aJ ((oZ cols x).getD fu)), .bool (oZ cols x).isSome] ∧ Kept noB w w' := by
 have Uq := hc
 obtain ⟨A, m, rfl, ⟨hm, xK⟩, hA⟩ := hc
 have H := Sep.bB w
 obtain ⟨res, ay⟩ : ∃ res, res = oZ cols x := ⟨_, rfl⟩
 rw [← ay]
 unfold oZ at ay
 refine Ai Tryz.func112 rfl rfl rfl rfl ?_
 refine Sr (dz H (h := fun b1 w2 H2 k1 => ?_))
 refine bD H2 (h := fun b3 w4 H4 k3 => ?_)
 refine Am ?_
 refine Qn (au (Sr (Vf ?_)))
 refine Ld H4 ?_
 refine Qn (aF (Sr (Ve ?_)))
 refine Am ?_
 refine Qn (Cp rfl (fun Ia => ?_) (fun Ia => ?_))
 ·rw [if_pos Ia] at ay
  refine Sr (Mv ?_)
  refine Vf ?_
  refine Ld H4 ?_
  refine aN H4 (KX x.n (Uq.keep H4.kept)) (h := fun wa Ha ka => ?_)
  refine Am ?_
  refine Qn (au (Sr (Mv ?_)))
  refine Vl ?_
  refine Mv ?_
  refine aG (t := 18) rfl (fun Sa => ?_) (fun Sa => ?_)
  ·have bY : res = none := by rw [ay, TM Sa]
   refine Of (Of (Of (Of (Of (Of (Of (Pt ?_)))))))
   refine Qn (aQ rfl ?_)
   refine Sr (Vv (Gives.build (out := aJ fu) Fills.nil) (aD Ha (h := fun wb Hb => ?_)))
   refine Am ?_
   refine Qn (Rs (aH (aL (aW (h := ?_)))))
   refine ⟨_, dQ Hb, ?_⟩
   exact ⟨by first | (rw [bY]; rfl) | (rw [ay]; rfl), Hb.kept⟩
  obtain ⟨i, hf, hI⟩ := Qs Sa
  have bU := OV hf
  obtain ⟨a, ha⟩ := get_some bU
  have hgd : cols.getD i ⟨0, [], fu, cell0⟩ = a := by rw [List.getD_eq_getElem?_getD, ha]; rfl
  rw [hf] at ay
  dsimp only at ay
  rw [hgd] at ay
  rw [hI]
  refine On (Mv ?_)
  refine On (Mv ?_)
  refine On (Vv (Gives.eT rfl rfl (by assumption) (by omega)) (On ?_))
  refine Vv (Gives.fH rfl (by assumption) (by omega)) (On ?_)
  refine Vv (Gives.Dw (us := aJ _) rfl Ha (by assumption) (by assumption) rfl rfl) (On ?_)
  refine aN Ha (OT _) (h := fun wc Hc kb => ?_)
  refine On (Vv (Gives.not rfl) (Pf ?_))
  refine Qn (Cd rfl (fun Ib => ?_) (fun Ib => ?_))
  ·have bY : res = none := by rw [ay, if_pos (by simpa using Ib)]
   refine Sr (Vv (Gives.build (out := aJ fu) Fills.nil) (aD Hc (h := fun wd Hd => ?_)))
   refine Am ?_
   refine Qn (Rs (aH (aL (aW (h := ?_)))))
   refine ⟨_, dQ Hd, ?_⟩
   exact ⟨by first | (rw [bY]; rfl) | (rw [ay]; rfl), Hd.kept⟩
  rw [if_neg (by simpa using Ib)] at ay
  refine Sk (Sr (Mv ?_))
  refine Mv ?_
  refine Vv (Gives.eT rfl rfl (by assumption) (by omega)) (Vv (Gives.fH rfl (by assumption) (by omega)) ?_)
  refine Vv (Gives.Dw (us := aJ _) rfl Hc (by assumption) (by assumption) rfl rfl) (bD Hc (h := fun b52 we He kc => ?_))
  refine aD He (h := fun wf Hf => ?_)
  refine Qn (au (Sr (Vf ?_)))
  refine Ld Hf ?_
  refine Ve ?_
  refine Qn (Cp rfl (fun Ic => ?_) (fun Ic => ?_))
  ·rw [if_pos Ic] at ay
   obtain ⟨t, ht⟩ : ∃ t, t = dH.mk 3 a.type.null := ⟨_, rfl⟩
   rw [← ht] at ay
   refine aB (Vf ?_)
   refine bW Hf (cs' := aJ t) (hs := by rw [ht]; rfl) (h := fun wg Hg => ?_)
   refine Nx (aZ Hg (h := ?_))
   refine aD Hg (h := fun wh Hh => ?_)
   refine Am ?_
   refine Qn (Rb (aW (h := ?_)))
   refine ⟨_, dQ Hh, ?_⟩
   exact ⟨by first | (rw [bY]; rfl) | (rw [ay]; rfl), Hh.kept⟩
  rw [if_neg Ic] at ay
  obtain ⟨t, ht⟩ : ∃ t, t = a.type := ⟨_, rfl⟩
  rw [← ht] at ay Hf
  refine Sk (Sr (aZ Hf (h := ?_)))
  refine aD Hf (h := fun wi Hi => ?_)
  refine Am ?_
  refine Qn (Rb (aW (h := ?_)))
  refine ⟨_, dQ Hi, ?_⟩
  exact ⟨by first | (rw [bY]; rfl) | (rw [ay]; rfl), Hi.kept⟩
 rw [if_neg Ia] at ay
 refine Sr (Ve ?_)
 refine Am ?_
 refine Qn (Cp rfl (fun Id => ?_) (fun Id => ?_))
 ·rw [if_pos Id] at ay
  refine Sr (Vv (Gives.build (out := aJ ⟨3, false⟩) (Fills.one rfl rfl rfl (by simp) rfl Fills.nil)) (aD H4 (h := fun wj Hj => ?_)))
  refine Am ?_
  refine Qn (Rb (aW (h := ?_)))
  refine ⟨_, dQ Hj, ?_⟩
  exact ⟨by first | (rw [bY]; rfl) | (rw [ay]; rfl), Hj.kept⟩
 rw [if_neg Id] at ay
 refine Sr (Ve ?_)
 refine Am ?_
 refine Qn (Cp rfl (fun Ie => ?_) (fun Ie => ?_))
 ·rw [if_pos Ie] at ay
  refine Sr (Vv (Gives.build (out := aJ ⟨1, false⟩) (Fills.one rfl rfl rfl (by simp) rfl Fills.nil)) (aD H4 (h := fun wk Hk => ?_)))
  refine Am ?_
  refine Qn (Rb (aW (h := ?_)))
  refine ⟨_, dQ Hk, ?_⟩
  exact ⟨by first | (rw [bY]; rfl) | (rw [ay]; rfl), Hk.kept⟩
 rw [if_neg Ie] at ay
 refine Sr (Ve ?_)
 refine Am ?_
 refine Qn (Cp rfl (fun If => ?_) (fun If => ?_))
 ·rw [if_pos If] at ay
  refine Sr (Vv (Gives.build (out := aJ ⟨4, false⟩) (Fills.one rfl rfl rfl (by simp) rfl Fills.nil)) (aD H4 (h := fun wl Hl => ?_)))
  refine Am ?_
  refine Qn (Rb (aW (h := ?_)))
  refine ⟨_, dQ Hl, ?_⟩
  exact ⟨by first | (rw [bY]; rfl) | (rw [ay]; rfl), Hl.kept⟩
 rw [if_neg If] at ay
 refine Sr (Ve ?_)
 refine Am ?_
 refine Qn (Cp rfl (fun Ig => ?_) (fun Ig => ?_))
 ·rw [if_pos Ig] at ay
  refine Sr (Vv (Gives.build (out := aJ ⟨5, false⟩) (Fills.one rfl rfl rfl (by simp) rfl Fills.nil)) (aD H4 (h := fun wm Hm => ?_)))
  refine Am ?_
  refine Qn (Rb (aW (h := ?_)))
  refine ⟨_, dQ Hm, ?_⟩
  exact ⟨by first | (rw [bY]; rfl) | (rw [ay]; rfl), Hm.kept⟩
 rw [if_neg Ig] at ay
 refine aY (aA (aj (Sr (Vf ?_))))
 refine Ld H4 ?_
 refine Vv (Gives.build (out := aJ ⟨x.n, true⟩) (Fills.one rfl rfl rfl (by simp) rfl (Fills.one rfl rfl rfl (by simp) rfl Fills.nil))) (aD H4 (h := fun wn Hn => ?_))
 refine Am ?_
 refine Qn (aM (aW (h := ?_)))
 refine ⟨_, dQ Hn, ?_⟩
 exact ⟨by first | (rw [bY]; rfl) | (rw [ay]; rfl), Hn.kept⟩
end
theorem jA {res : Option dH} {t : dH} {ok : Bool} (h : res = if ok = true then some t else none) : ∃ t', Value.tuple #[agg (aJ t), .bool ok] = .tuple #[agg (aJ t'), .bool res.isSome] ∧ ∀ x, res = some x → t' = x := by
 subst h
 refine ⟨t, by cases ok <;> rfl, fun x hx => ?_⟩
 cases ok
 ·cases hx
 injection hx
section
variable {w : World}
theorem Qu (k : Int) (a b : dH) : bF Tryz.prog 113 [I k, agg (aJ a), agg (aJ b)] w fun v w' => (∃ t, v = .tuple #[agg (aJ t), .bool (qM k a b).isSome] ∧ ∀ x, qM k a b = some x → t = x) ∧ Kept noB w w' := by
 have H := Sep.bB w
 obtain ⟨res, ay⟩ : ∃ res, res = qM k a b := ⟨_, rfl⟩
 rw [← ay]
 unfold qM at ay
 refine Tm Tryz.func113 rfl rfl rfl rfl ?_
 refine Sr (dz H (h := fun b1 w2 H2 k1 => ?_))
 refine dz H2 (h := fun b3 w4 H4 k3 => ?_)
 refine bD H4 (h := fun b5 w6 H6 k5 => ?_)
 refine Am ?_
 refine Qn (fO (fun z : Bool => [(0, I k), (4, .pointer (some ⟨b1, 0, none⟩)), (5, .pointer (some ⟨b3, 0, none⟩)), (6, .pointer (some ⟨b5, 0, none⟩)), (7, .bool false), (8, .bool z)]) (fun z w' => z = (a.null || b.null) ∧ Sep w noB [blk b5 (aJ fu) 45, blk b3 (aJ b) 45, blk b1 (aJ a) 45] w') ?_ ?_)
 ·refine aB (Vf ?_)
  refine Ld H6 ?_
  refine Mv ?_
  refine dh (t := 13) rfl (fun Sa => ?_) (fun Sa => ?_)
  ·refine Of (Of (Pt ?_))
   refine Am ?_
   refine aP ?_
   exact aS _ ⟨rfl, rfl, rfl, rfl, rfl, rfl, trivial⟩ ⟨by simp [*], H6⟩
  refine On (Vf ?_)
  refine On (Ld H6 ?_)
  refine Pf ?_
  refine Am ?_
  refine aP ?_
  exact aS _ ⟨rfl, rfl, rfl, rfl, rfl, rfl, trivial⟩ ⟨by simp [*], H6⟩
 rintro nn τ wa ⟨Gy, Ha⟩
 simp only [cZ, like, bC, bZ]
 refine fO (fun z : Bool => [(0, I k), (4, .pointer (some ⟨b1, 0, none⟩)), (5, .pointer (some ⟨b3, 0, none⟩)), (6, .pointer (some ⟨b5, 0, none⟩)), (7, .bool false), (8, .bool nn), (9, .bool z)]) (fun z w' => z = decide (a.kind = 3 ∧ b.kind = 3) ∧ Sep w noB [blk b5 (aJ fu) 45, blk b3 (aJ b) 45, blk b1 (aJ a) 45] w') ?_ ?_
 ·refine aB (Vf ?_)
  refine Ld Ha ?_
  refine Ve ?_
  refine Mv ?_
  refine aG (t := 20) rfl (fun Sb => ?_) (fun Sb => ?_)
  ·refine On (Vf ?_)
   refine On (Ld Ha ?_)
   refine On (Ve ?_)
   refine Pt ?_
   refine Am ?_
   refine aP ?_
   exact aS _ ⟨rfl, rfl, rfl, rfl, rfl, rfl, rfl, trivial⟩ ⟨by simp [*], Ha⟩
  refine Of (Of (Of (Pf ?_)))
  refine Am ?_
  refine aP ?_
  exact aS _ ⟨rfl, rfl, rfl, rfl, rfl, rfl, rfl, trivial⟩ ⟨by simp [*], Ha⟩
 rintro n3 τ wb ⟨hn3, Hb⟩
 simp only [cZ, like, bC]
 refine fO (fun z : Bool => [(0, I k), (4, .pointer (some ⟨b1, 0, none⟩)), (5, .pointer (some ⟨b3, 0, none⟩)), (6, .pointer (some ⟨b5, 0, none⟩)), (7, .bool false), (8, .bool nn), (9, .bool n3), (10, .bool z)]) (fun z w' => z = decide (a.kind = 1 ∧ b.kind = 1) ∧ Sep w noB [blk b5 (aJ fu) 45, blk b3 (aJ b) 45, blk b1 (aJ a) 45] w') ?_ ?_
 ·refine aB (Vf ?_)
  refine Ld Hb ?_
  refine Ve ?_
  refine Mv ?_
  refine aG (t := 28) rfl (fun Sc => ?_) (fun Sc => ?_)
  ·refine On (Vf ?_)
   refine On (Ld Hb ?_)
   refine On (Ve ?_)
   refine Pt ?_
   refine Am ?_
   refine aP ?_
   exact aS _ ⟨rfl, rfl, rfl, rfl, rfl, rfl, rfl, rfl, trivial⟩ ⟨by simp [*], Hb⟩
  refine Of (Of (Of (Pf ?_)))
  refine Am ?_
  refine aP ?_
  exact aS _ ⟨rfl, rfl, rfl, rfl, rfl, rfl, rfl, rfl, trivial⟩ ⟨by simp [*], Hb⟩
 rintro n1 τ wc ⟨JN, Hc⟩
 simp only [cZ, like, bC]
 refine au (Sr (Mv ?_))
 refine Qn (aF (au (Sr (Ve ?_))))
 refine Am ?_
 refine Qn (Cp rfl (fun Ia => ?_) (fun Ia => ?_))
 ·refine Sk (aQ (congrArg Value.bool (decide_eq_true Ia)) ?_)
  refine Sr (Mv ?_)
  refine Vv (Gives.build (out := aJ ⟨3, nn⟩) (Fills.one rfl rfl rfl (by simp) rfl (Fills.one rfl rfl rfl (by simp) rfl Fills.nil))) (Mv ?_)
  refine aD Hc (h := fun wd Hd => ?_)
  refine Am ?_
  refine Qn (Rb (aW (h := ?_)))
  exact ⟨_, dQ Hd, jA (t := ⟨3, nn⟩) (ok := n3) (by rw [ay, if_pos (by omega), Gy, hn3]; simp only [decide_eq_true_eq]), Hd.kept⟩
 refine Sr (Ve ?_)
 refine Am ?_
 refine Qn (Cp rfl (fun Ib => ?_) (fun Ib => ?_))
 ·refine Sk (aQ (congrArg Value.bool (decide_eq_true Ib)) ?_)
  refine Sr (Mv ?_)
  refine Vv (Gives.build (out := aJ ⟨3, nn⟩) (Fills.one rfl rfl rfl (by simp) rfl (Fills.one rfl rfl rfl (by simp) rfl Fills.nil))) (Mv ?_)
  refine aD Hc (h := fun we He => ?_)
  refine Am ?_
  refine Qn (Rb (aW (h := ?_)))
  exact ⟨_, dQ He, jA (t := ⟨3, nn⟩) (ok := n3) (by rw [ay, if_pos (by omega), Gy, hn3]; simp only [decide_eq_true_eq]), He.kept⟩
 refine Sr (Ve ?_)
 refine Am ?_
 refine Qn (Cp rfl (fun Ic => ?_) (fun Ic => ?_))
 ·refine Sk (aQ (congrArg Value.bool (decide_eq_true Ic)) ?_)
  refine Sr (Mv ?_)
  refine Vv (Gives.build (out := aJ ⟨3, nn⟩) (Fills.one rfl rfl rfl (by simp) rfl (Fills.one rfl rfl rfl (by simp) rfl Fills.nil))) (Mv ?_)
  refine aD Hc (h := fun wf Hf => ?_)
  refine Am ?_
  refine Qn (Rb (aW (h := ?_)))
  exact ⟨_, dQ Hf, jA (t := ⟨3, nn⟩) (ok := n3) (by rw [ay, if_pos (by omega), Gy, hn3]; simp only [decide_eq_true_eq]), Hf.kept⟩
 refine aB (Ve ?_)
 refine Am ?_
 refine Qn (Cp rfl (fun Id => ?_) (fun Id => ?_))
 ·refine Sr (Mv ?_)
  refine Vv (Gives.build (out := aJ ⟨3, nn⟩) (Fills.one rfl rfl rfl (by simp) rfl (Fills.one rfl rfl rfl (by simp) rfl Fills.nil))) (Mv ?_)
  refine aD Hc (h := fun wg Hg => ?_)
  refine Am ?_
  refine Qn (Rb (aW (h := ?_)))
  exact ⟨_, dQ Hg, jA (t := ⟨3, nn⟩) (ok := n3) (by rw [ay, if_pos (by omega), Gy, hn3]; simp only [decide_eq_true_eq]), Hg.kept⟩
 refine au (Sr (Ve ?_))
 refine Am ?_
 refine Qn (Cp rfl (fun Ie => ?_) (fun Ie => ?_))
 ·refine Sk (aQ (congrArg Value.bool (decide_eq_true Ie)) ?_)
  refine au (bG rfl Hc (h := fun Sd wh Hh => ?_))
  refine Gm Sd 0 ?_
  refine Gp Sd 1 rfl rfl (fun _ => (Gives.build (out := aJ ⟨1, nn⟩) (Fills.one rfl rfl rfl (by simp) rfl (Fills.one rfl rfl rfl (by simp) rfl Fills.nil)))) (Gp Sd 2 rfl rfl (fun _ => (Gives.dx rfl)) ?_)
  refine cK Sd 3 Hh (h := ?_)
  refine Gp Sd 4 rfl rfl (fun _ => (Gives.dx rfl)) (cK Sd 5 Hh (h := ?_))
  refine Gp Sd 6 rfl rfl (fun _ => (Gives.eql rfl rfl)) (dF Sd 7 [(6, true), (5, false), (4, true), (3, false), (2, true)] Hh (h := fun wi Hi => ⟨av (bQ Hi (h := av (bQ Hi (h := av (aK))))), ?_⟩))
  refine Gp Sd 8 rfl rfl (fun _ => Gives.assign rfl) (bR Sd (by kernel_rfl) ?_)
  refine aj (Rb (aW (h := ?_)))
  exact ⟨_, dQ Hi, jA (t := ⟨1, nn⟩) (ok := decide (a.kind = b.kind)) (by rw [ay, if_neg (by omega), if_pos (by omega), Gy]; simp only [decide_eq_true_eq]), Hi.kept⟩
 refine aB (Ve ?_)
 refine Am ?_
 refine Qn (Cp rfl (fun If => ?_) (fun If => ?_))
 ·refine au (bG rfl Hc (h := fun Se wj Hj => ?_))
  refine Gm Se 0 ?_
  refine Gp Se 1 rfl rfl (fun _ => (Gives.build (out := aJ ⟨1, nn⟩) (Fills.one rfl rfl rfl (by simp) rfl (Fills.one rfl rfl rfl (by simp) rfl Fills.nil)))) (Gp Se 2 rfl rfl (fun _ => (Gives.dx rfl)) ?_)
  refine cK Se 3 Hj (h := ?_)
  refine Gp Se 4 rfl rfl (fun _ => (Gives.dx rfl)) (cK Se 5 Hj (h := ?_))
  refine Gp Se 6 rfl rfl (fun _ => (Gives.eql rfl rfl)) (dF Se 7 [(6, true), (5, false), (4, true), (3, false), (2, true)] Hj (h := fun wk Hk => ⟨av (bQ Hk (h := av (bQ Hk (h := av (aK))))), ?_⟩))
  refine Gp Se 8 rfl rfl (fun _ => Gives.assign rfl) (bR Se (by kernel_rfl) ?_)
  refine aj (Rb (aW (h := ?_)))
  exact ⟨_, dQ Hk, jA (t := ⟨1, nn⟩) (ok := decide (a.kind = b.kind)) (by rw [ay, if_neg (by omega), if_pos (by omega), Gy]; simp only [decide_eq_true_eq]), Hk.kept⟩
 refine au (Sr (Ve ?_))
 refine Am ?_
 refine Qn (Cp rfl (fun Ig => ?_) (fun Ig => ?_))
 ·refine Sk (aQ (congrArg Value.bool (decide_eq_true Ig)) ?_)
  refine Sr (Mv ?_)
  refine Vv (Gives.build (out := aJ ⟨1, nn⟩) (Fills.one rfl rfl rfl (by simp) rfl (Fills.one rfl rfl rfl (by simp) rfl Fills.nil))) (Mv ?_)
  refine aD Hc (h := fun wl Hl => ?_)
  refine Am ?_
  refine Qn (Rb (aW (h := ?_)))
  exact ⟨_, dQ Hl, jA (t := ⟨1, nn⟩) (ok := n1) (by rw [ay, if_neg (by omega), if_neg (by omega), if_pos (by omega), Gy, JN]; simp only [decide_eq_true_eq]), Hl.kept⟩
 refine Sr (Ve ?_)
 refine Am ?_
 refine Qn (Cp rfl (fun Ih => ?_) (fun Ih => ?_))
 ·refine Sk (aQ (congrArg Value.bool (decide_eq_true Ih)) ?_)
  refine Sr (Mv ?_)
  refine Vv (Gives.build (out := aJ ⟨1, nn⟩) (Fills.one rfl rfl rfl (by simp) rfl (Fills.one rfl rfl rfl (by simp) rfl Fills.nil))) (Mv ?_)
  refine aD Hc (h := fun wm Hm => ?_)
  refine Am ?_
  refine Qn (Rb (aW (h := ?_)))
  exact ⟨_, dQ Hm, jA (t := ⟨1, nn⟩) (ok := n1) (by rw [ay, if_neg (by omega), if_neg (by omega), if_pos (by omega), Gy, JN]; simp only [decide_eq_true_eq]), Hm.kept⟩
 refine aB (Ve ?_)
 refine Am ?_
 refine Qn (Cp rfl (fun Ii => ?_) (fun Ii => ?_))
 ·refine Sr (Mv ?_)
  refine Vv (Gives.build (out := aJ ⟨1, nn⟩) (Fills.one rfl rfl rfl (by simp) rfl (Fills.one rfl rfl rfl (by simp) rfl Fills.nil))) (Mv ?_)
  refine aD Hc (h := fun wn Hn => ?_)
  refine Am ?_
  refine Qn (Rb (aW (h := ?_)))
  exact ⟨_, dQ Hn, jA (t := ⟨1, nn⟩) (ok := n1) (by rw [ay, if_neg (by omega), if_neg (by omega), if_pos (by omega), Gy, JN]; simp only [decide_eq_true_eq]), Hn.kept⟩
 refine Sr (Ve ?_)
 refine Am ?_
 refine Qn (Cp rfl (fun Ij => ?_) (fun Ij => ?_))
 ·refine Sr (Vv (Gives.build (out := aJ ⟨1, false⟩) (Fills.one rfl rfl rfl (by simp) rfl Fills.nil)) (aD Hc (h := fun wo Ho => ?_)))
  refine Am ?_
  refine Qn (Rb (aW (h := ?_)))
  exact ⟨_, dQ Ho, jA (t := ⟨1, false⟩) (ok := true) (by rw [ay, if_neg (by omega), if_neg (by omega), if_neg (by omega), if_pos (by omega)]; rfl), Ho.kept⟩
 refine Sr (Ve ?_)
 refine Am ?_
 refine Qn (Cp rfl (fun Ik => ?_) (fun Ik => ?_))
 ·refine au (bG rfl Hc (h := fun Sf wp Hp => ?_))
  refine Gp Sf 0 rfl rfl (fun _ => (Gives.dx rfl)) (cK Sf 1 Hp (h := ?_))
  refine Gp Sf 2 rfl rfl (fun _ => (Gives.dx rfl)) (cK Sf 3 Hp (h := ?_))
  refine Gm Sf 4 ?_
  refine jP (t := 68) rfl (fun Sg => ?_) (fun Sg => ?_)
  ·have hny : (a.null && b.null) = b.null := by rw [Sg]; rfl
   refine Gp Sf 5 rfl rfl (fun _ => (Gives.dx rfl)) (cK Sf 6 Hp (h := ?_))
   refine Gp Sf 7 rfl rfl (fun _ => Gives.nC rfl rfl) (Gp Sf 8 rfl rfl (fun _ => (Gives.build (out := aJ ⟨a.kind, b.null⟩) (Fills.one rfl rfl rfl (by simp) rfl (Fills.one rfl rfl rfl (by simp) rfl Fills.nil)))) ?_)
   refine Gp Sf 9 rfl rfl (fun _ => (Gives.dx rfl)) (cK Sf 10 Hp (h := ?_))
   refine Gp Sf 11 rfl rfl (fun _ => (Gives.dx rfl)) (cK Sf 12 Hp (h := ?_))
   refine Gp Sf 13 rfl rfl (fun _ => (Gives.eql rfl rfl)) (dF Sf 14 [(13, true), (12, false), (11, true), (10, false), (9, true)] Hp (h := fun wq Hq => ⟨av (bQ Hq (h := av (bQ Hq (h := av (aK))))), ?_⟩))
   refine Gp Sf 15 rfl rfl (fun _ => Gives.assign rfl) (bR Sf (by kernel_rfl) ?_)
   refine aj (Rb (aW (h := ?_)))
   exact ⟨_, dQ Hq, jA (t := ⟨a.kind, b.null⟩) (ok := decide (a.kind = b.kind)) (by rw [ay, if_neg (by omega), if_neg (by omega), if_neg (by omega), if_neg (by omega), if_pos (by omega), hny]; simp only [decide_eq_true_eq]), Hq.kept⟩
  have hny : (a.null && b.null) = false := by rw [Sg]; rfl
  refine dL Sf 5 rfl rfl (by kernel_rfl) ?_
  refine dL Sf 6 rfl rfl (by kernel_rfl) ?_
  refine Gp Sf 7 rfl rfl (fun _ => Gives.nP rfl rfl) (Gp Sf 8 rfl rfl (fun _ => (Gives.build (out := aJ ⟨a.kind, false⟩) (Fills.one rfl rfl rfl (by simp) rfl (Fills.one rfl rfl rfl (by simp) rfl Fills.nil)))) ?_)
  refine Gp Sf 9 rfl rfl (fun _ => (Gives.dx rfl)) (cK Sf 10 Hp (h := ?_))
  refine Gp Sf 11 rfl rfl (fun _ => (Gives.dx rfl)) (cK Sf 12 Hp (h := ?_))
  refine Gp Sf 13 rfl rfl (fun _ => (Gives.eql rfl rfl)) (dF Sf 14 [(13, true), (12, false), (11, true), (10, false), (9, true)] Hp (h := fun wr Hr => ⟨av (bQ Hr (h := av (bQ Hr (h := av (aK))))), ?_⟩))
  refine Gp Sf 15 rfl rfl (fun _ => Gives.assign rfl) (bR Sf (by kernel_rfl) ?_)
  refine aj (Rb (aW (h := ?_)))
  exact ⟨_, dQ Hr, jA (t := ⟨a.kind, false⟩) (ok := decide (a.kind = b.kind)) (by rw [ay, if_neg (by omega), if_neg (by omega), if_neg (by omega), if_neg (by omega), if_pos (by omega), hny]; simp only [decide_eq_true_eq]), Hr.kept⟩
 refine aY (aA (aj (au (bG rfl Hc (h := fun Sh ws Hs => ?_)))))
 refine Gm Sh 0 ?_
 refine Gp Sh 1 rfl rfl (fun _ => (Gives.build (out := aJ ⟨3, nn⟩) (Fills.one rfl rfl rfl (by simp) rfl (Fills.one rfl rfl rfl (by simp) rfl Fills.nil)))) (Gp Sh 2 rfl rfl (fun _ => (Gives.dx rfl)) ?_)
 refine cK Sh 3 Hs (h := ?_)
 refine Gp Sh 4 rfl rfl (fun _ => (Gives.eql rfl rfl)) (Gm Sh 5 ?_)
 refine lC (t := 83) rfl (fun Si => ?_) (fun Si => ?_)
 ·refine dL Sh 6 rfl rfl (by kernel_rfl) ?_
  refine dL Sh 7 rfl rfl (by kernel_rfl) ?_
  refine dL Sh 8 rfl rfl (by kernel_rfl) ?_
  refine Gp Sh 9 rfl rfl (fun _ => Gives.nC rfl rfl) (dF Sh 10 [(9, true), (8, true), (7, true), (6, true)] Hs (h := fun wt Ht => ⟨av (av (av (av (aK)))), ?_⟩))
  refine Gp Sh 11 rfl rfl (fun _ => Gives.assign rfl) (bR Sh (by kernel_rfl) ?_)
  refine aj (aM (aW (h := ?_)))
  exact ⟨_, dQ Ht, jA (t := ⟨3, nn⟩) (ok := true) (by rw [ay, if_neg (by omega), if_neg (by omega), if_neg (by omega), if_neg (by omega), if_neg (by omega), Gy, if_pos (.inl (by assumption))]; rfl), Ht.kept⟩
 refine Gp Sh 6 rfl rfl (fun _ => (Gives.dx rfl)) (cK Sh 7 Hs (h := ?_))
 refine Gp Sh 8 rfl rfl (fun _ => (Gives.eql rfl rfl)) (Gp Sh 9 rfl rfl (fun _ => Gives.nP rfl rfl) ?_)
 refine dF Sh 10 [(9, true), (8, true), (7, false), (6, true)] Hs (h := fun wu Hu => ⟨av (av (bQ Hu (h := av (aK)))), ?_⟩)
 refine Gp Sh 11 rfl rfl (fun _ => Gives.assign rfl) (bR Sh (by kernel_rfl) ?_)
 refine aj (aM (aW (h := ?_)))
 exact ⟨_, dQ Hu, jA (t := ⟨3, nn⟩) (ok := decide (a.kind = 5)) (by rw [ay, if_neg (by omega), if_neg (by omega), if_neg (by omega), if_neg (by omega), if_neg (by omega), Gy]; simp [*]), Hu.kept⟩
end
end Go.Proofs.YtolaedhdjcnijaaGreatDoor
namespace Go.Mw
open Go.RowKit
section
variable {P : Program} {r : Option Nat} {n : Nat} {ops : Array Oper} {Q : Post} {lv : List Bool} {pd : List (Nat × Bool)} {σ : St} {w : World}
def nM (ops : Array Oper) (lv : List Bool) (ids : List Nat) (e : Nat) : Bool :=
 (p9 ops lv).contains e &&
 ids.all fun k => (j4 ops e).contains k || ((match ig ops e with | some d => ig ops k != some d && !(looks ops k).contains d | none => true) &&
  (match ig ops k with | some d => !(looks ops e).contains d | none => true))
def nZ (P : Program) (r : Option Nat) (n : Nat) (ops : Array Oper) (Q : Post) (lv : List Bool) (pd : List (Nat × Bool)) (σ : St) (w : World) (e : Nat) : Prop :=
 ∀ sub lr a, Real P n ops lv pd σ w sub lr a → (∀ k ∈ j4 ops e, lr.getD k false = true) → wpOpIn (fen r) 0 P ops (lift n Q) e (wpAnyIn (fen r) 0 P .any ops (lift n Q) (left ops (lr.setIfInBounds e true)) (lr.setIfInBounds e true)) a w
theorem vD (fK : fC n ops = true) {e1 e2 : Nat} (YH : (p9 ops lv == [e1, e2]) = true) (h1 : nZ P r n ops Q lv pd σ w e1) (h2 : nZ P r n ops Q lv pd σ w e2) : FG P r n ops Q lv pd σ w := by
 have Yr : p9 ops lv = [e1, e2] := by simpa using YH
 refine GK fK (fun h0 => by rw [h0] at Yr; cases Yr) fun e he sub lr a hr iV => ?_
 rw [Yr] at he
 rcases List.mem_cons.1 he with rfl | he
 ·exact h1 sub lr a hr iV
 rw [List.mem_singleton] at he
 subst he
 exact h2 sub lr a hr iV
theorem Dx (fK : fC n ops = true) {e' : Nat} {o : Oper} (ho : ops[e']? = some o) (jl : nM ops lv (pd.map (·.1)) e' = true) (hw : Region.wanted o (dR ops σ) = true) (pd' : List (Nat × Bool)) (qA : pd.filter (fun p => !((above ops e').contains p.1)) = pd')
    (h : CB P σ w o fun σ' w' => jX P ops σ' w' pd' ∧ FG P r n ops Q (lv.set e' true) pd' σ' w') : nZ P r n ops Q lv pd σ w e' := by
  unfold nM at jl
  simp only [Bool.and_eq_true, List.all_eq_true] at jl
  obtain ⟨abY, Us⟩ := jl
  have hmr : e' ∈ p9 ops lv := List.contains_iff_mem.1 abY
  intro sub lr a hr iV
  have bU := (Array.getElem?_eq_some_iff.1 ho).1
  have Ra := rO ho
  obtain ⟨Ur, Ob⟩ := oh fK ho
  have hrd := sJ.1 hmr
  have h0' := uL hrd.1
  obtain ⟨σr, yR, Q7, hσ⟩ := hr.rep
  have X6 : ∀ p ∈ sub, p.1 ∉ j4 ops e' := fun p hp hm => by have := iV _ hm; rw [hr.vS hp] at this; cases this
  have sF : ∀ p ∈ sub, (∀ d, o.dst = some d → ig ops p.1 ≠ some d ∧ d ∉ looks ops p.1) ∧ ∀ d, ig ops p.1 = some d → d ∉ looks ops e' := fun p hp => by
    have := Us p.1 (List.mem_map.2 ⟨p, hr.mem p hp, rfl⟩)
    rw [Bool.or_eq_true] at this
    rcases this with h1 | h1
    · exact absurd (List.contains_iff_mem.1 h1) (X6 p hp)
    rw [Bool.and_eq_true, Ra] at h1
    refine ⟨fun d hd => ?_, fun d hd => ?_⟩
    · have h2 := h1.1
      rw [hd] at h2
      simpa using h2
    have h2 := h1.2
    rw [hd] at h2
    simpa using h2
  have BJ : ∀ x ∈ looks ops e', σr x = σ x := fun x hx => hσ x fun p hp hd => (sF p hp).2 x hd hx
  have Eb : ∀ (v : Value) (w' : World) (a' : Act), Rep n (nu σr o.dst v) a' → jX P ops (nu σ o.dst v) w' pd' → Real P n ops (lv.set e' true) pd' (nu σ o.dst v) w' sub (lr.setIfInBounds e' true) a' := by
    intro v w' a' Wn dJ
    have qC : ∀ p ∈ sub, p ∈ pd' := fun p hp => by
      rw [← qA, List.mem_filter]
      refine ⟨hr.mem p hp, ?_⟩
      cases hc : (above ops e').contains p.1
      · rfl
      have := y8 hr iV p.1 (List.contains_iff_mem.1 hc)
      rw [hr.vS hp] at this; cases this
    refine ⟨qC, hr.nd, hr.pw, fun p hp k hk => ⟨nT (hr.pr p hp k hk).1, (hr.pr p hp k hk).2⟩, fun p hp => nT (hr.lvl p hp), fun k hk => ?_, by simpa using hr.sz, by simpa using hr.lsz, fun k hk j hj => ?_, ⟨_, Wn, by simpa [yX] using Q7, fun x hx => ?_⟩,
      fun p hp => ?_, hr.own, hr.apart⟩
    · by_cases xR : e' = k
      · subst xR
        have h1 : (lr.setIfInBounds e' true).getD e' true = true := by
          simp [Array.getD_eq_getD_getElem?, Array.getElem?_setIfInBounds]
          split <;> rfl
        rw [h1, qb _ (by rw [hr.lsz]; exact bU)]
        cases hc : (sub.map (·.1)).contains e'
        · rfl
        obtain ⟨p, hp, e1⟩ := List.mem_map.1 (List.contains_iff_mem.1 hc)
        have := hr.lvl p hp
        rw [e1, h0'] at this; cases this
      rw [getD_set_ne true xR, sM xR, hr.lrv k hk]
    · by_cases xR : e' = k
      · subst xR; exact getD_set_true (iV j hj)
      rw [getD_set_ne false xR] at hk; exact getD_set_true (hr.cl k hk j hj)
    · by_cases hd : o.dst = some x
      · rw [hd]; show upd σr x v x = upd σ x v x; rw [upd_same, upd_same]
      rw [gI hd, gI hd]; exact hσ x hx
    cases hf : p.2 with
    | false =>
      obtain ⟨o', v', zU, Wp, xQ⟩ := dJ.get p (qC p hp) hf
      refine ⟨o', v', zU, Wp, fun w'' hw'' => ?_⟩
      rcases hw'' with hw'' | hw''
      · cases hw''
      rw [hw'']; exact xQ
    | true =>
      obtain ⟨o', v', zU, Wp, xQ⟩ := hr.yl p hp
      refine ⟨o', v', zU, fun d hd => ?_, fun w'' _ => (xQ w'' (.inl hf)).congr zU (oh fK zU).2 fun x hx => (gI fun e1 => ((sF p hp).1 x e1).2 hx).symm⟩
      rw [gI (fun e1 => ((sF p hp).1 d e1).1 (by rw [rO zU, hd]))]; exact Wp d hd
  unfold wpOpIn
  simp only [ho]
  have hww : Region.wanted o (yielded ops a.tmps) = true := by
    rw [yR.yielded ops (z8 fK), pz ho BJ]; exact hw
  rw [if_pos hww]
  refine ⟨fun _ _ => trivial, ?_⟩
  unfold CB at h
  have X7 : (o.semAt (fen r).round a.eval) = execOp (evF σ) o := by
    rw [Oper.semAt_eq _ _ _ fun c hc => ?_, yR.eval, sK ho Ob BJ]
    have fM : ∀ x w', (execOp (evF σ) o).run P w = .ok x w' → ∃ d, x = .defer d := fun x w' hx => by
      unfold execOp at hx
      rw [hc] at hx
      simp only [Sem.run_bind] at hx
      cases hr : (resolve (evF σ) c o.type).run P w <;> rw [hr] at hx <;> simp [Result.andThen] at hx
      exact ⟨_, hx.1.symm⟩
    cases hx : (execOp (evF σ) o).run P w with
    | halt x w' => rw [hx] at h; exact h
    | ok x w' =>
      obtain ⟨d, rfl⟩ := fM x w' hx
      rw [hx] at h; exact h
  rw [X7]
  generalize (execOp (evF σ) o).run P w = res at h ⊢
  cases res with
  | halt x w' => exact h.elim
  | ok nx w' =>
    cases nx with
    | value v => exact h.2 _ _ _ (Eb v w' _ (yR.Ep Ur v) h.1)
    | skip => exact h.2 _ _ _ (Eb undef w' _ (yR.Ep Ur undef) h.1)
    | enter f args =>
      refine ⟨(fun h => by cases h), rH r (Calls.mono h fun en w'' Em => ?_)⟩
      cases en with
      | returned v => exact Em.2 _ _ _ (Eb v w'' _ (yR.Ep Ur v) Em.1)
      | _ => exact Em.elim
    | _ => exact h.elim

theorem Qv (fK : fC n ops = true) (e : Nat) (pd' : List (Nat × Bool)) {dst : Option Nat} {f : FuncId} {xs : List Operand} {ats : Array TypeId} {vals : List Value} {R : Value → World → Prop} {ty : TypeId} {pos : String} {after : Array Edge} {guard : Option (Nat × Bool)} [he : Enters P f]
    (ho : ops[e]? = some { dst := dst, op := .call { callee := .value (.func f), args := xs.toArray, argTypes := ats }, type := ty, pos := pos, after := after, guard := guard })
    (hw : Region.wanted { dst := dst, op := .call { callee := .value (.func f), args := xs.toArray, argTypes := ats }, type := ty, pos := pos, after := after, guard := guard } (dR ops σ) = true) (hc : bF P f vals w R) (hv : xs.map (evF σ) = vals) (jl : nM ops lv (pd.map (·.1)) e = true)
    (qA : pd.filter (fun p => !((above ops e).contains p.1)) = pd') (h : ∀ v w', R v w' → jX P ops (nu σ dst v) w' pd' ∧ FG P r n ops Q (lv.set e true) pd' (nu σ dst v) w') : nZ P r n ops Q lv pd σ w e := by
  refine Dx fK ho jl hw pd' qA ?_
  unfold CB
  have e1 : execOp (evF σ) { dst := dst, op := .call { callee := .value (.func f), args := xs.toArray, argTypes := ats }, type := ty, pos := pos, after := after, guard := guard } = callFunc f (#[] ++ xs.toArray.map (evF σ) ++ #[]) := rfl
  have e2 : (#[] ++ xs.toArray.map (evF σ) ++ #[] : Array Value) = vals.toArray := by simp [hv]
  rw [e1, he.run, e2]
  refine Calls.mono hc fun en w'' hr => ?_
  cases en with
  | returned v => exact h v w'' hr
  | _ => exact hr.elim
theorem Dy (fK : fC n ops = true) (e : Nat) (pd' : List (Nat × Bool)) {d : Nat} {op : Op} {ty : TypeId} {pos : String} {after : Array Edge} {guard : Option (Nat × Bool)} {C : Value → World → Prop} (ho : ops[e]? = some { dst := some d, op := op, type := ty, pos := pos, after := after, guard := guard })
    (hw : Region.wanted { dst := some d, op := op, type := ty, pos := pos, after := after, guard := guard } (dR ops σ) = true) (hg : ∃ v w', Gives P (evF σ) op ty w v w' ∧ C v w') (jl : nM ops lv (pd.map (·.1)) e = true)
    (qA : pd.filter (fun p => !((above ops e).contains p.1)) = pd') (h : ∀ v w', C v w' → jX P ops (upd σ d v) w' pd' ∧ FG P r n ops Q (lv.set e true) pd' (upd σ d v) w') : nZ P r n ops Q lv pd σ w e := by
  obtain ⟨v, w', hg, hC⟩ := hg
  refine Dx fK ho jl hw pd' qA ?_
  unfold CB
  rw [hg]
  exact h v w' hC
theorem nW {w₀ : World} {S : Nat → Prop} {rs : List HP} (fK : fC n ops = true) (i : Nat) (pd' : List (Nat × Bool)) {d : Nat} {T : TypeId} {ty : TypeId} {pos : String} {after : Array Edge} {guard : Option (Nat × Bool)} {z : Value} [hz : Zero P T z] {cs : List Value} (H : Sep w₀ S rs w) (ho : ops[i]? = some { dst := some d, op := .alloc T, type := ty, pos := pos, after := after, guard := guard } := by exact rfl)
    (hw : Region.wanted { dst := some d, op := .alloc T, type := ty, pos := pos, after := after, guard := guard } (dR ops σ) = true := by kernel_rfl) (oK : z.cells = cs.toArray := by exact rfl)
    (jl : nM ops lv (pd.map (·.1)) i = true := by kernel_rfl) (qA : pd.filter (fun p => !((above ops i).contains p.1)) = pd' := by kernel_rfl)
    (h : ∀ b w', Sep w₀ S (blk b cs T :: rs) w' → jX P ops (upd σ d (.pointer (some ⟨b, 0, none⟩))) w' pd' ∧ FG P r n ops Q (lv.set i true) pd' (upd σ d (.pointer (some ⟨b, 0, none⟩))) w') : nZ P r n ops Q lv pd σ w i :=
  Dy (C := fun v w' => ∃ b, v = .pointer (some ⟨b, 0, none⟩) ∧ Sep w₀ S (blk b cs T :: rs) w') fK i pd' ho hw
    ⟨.pointer (some ⟨w.heap.size, 0, none⟩), w.alloc (.cells cs.toArray T), fun _ _ _ _ => by simp [execOp, Instr.alloc, hz.run, newVar, newRow, oK], _, rfl, H.alloc _⟩ jl qA
    (fun v w' hv => by obtain ⟨b, rfl, hs⟩ := hv; exact h b w' hs)
end
end Go.Mw
namespace Go.Mw
open Go.RowKit
def cO {α : Type} (e k : Nat) (enc : α → List Value) (v : Value) (l : List α) : HP := yj e k v l.length (l.flatMap enc)
section
variable {α : Type} {enc : α → List Value} {k e : Nat} {l news : List α} {A : Option Addr} {w w' w₀ : World} {S : Nat → Prop} {rs : List HP} {put : HP → List HP} {v : Value}
theorem Sep.iX (H : Sep w₀ S rs w) (e k : Nat) (enc : α → List Value) : Sep w₀ S (cO e k enc (.slice none 0 0) [] :: rs) w := H.Ru e k
theorem Sep.fJ (H : Sep w₀ S rs w) (hat : At rs (cO e k enc v l) put) : ∃ A c, v = .slice A l.length c ∧ l.length ≤ c ∧ Rd w A enc k l := by
 obtain ⟨A, c, hv, rG, _, _⟩ := Sep.qE H hat
 subst hv
 exact ⟨A, c, rfl, rG, Sep.rowAt H hat⟩
theorem Ar (hk : ∀ x, (enc x).length = k) : ∀ (l : List α) (m : Nat), (l.take m).flatMap enc = (l.flatMap enc).take (m * k)
 | _, 0 => by simp
 | [], m + 1 => by simp
 | a :: l, m + 1 => by
  rw [List.take_succ_cons, List.flatMap_cons, List.flatMap_cons, Ar hk l m, List.take_append, hk, Nat.succ_mul, Nat.add_sub_cancel, List.take_of_length_le (l := enc a) (by rw [hk]; omega)]
theorem Sep.aa6 [hk : jU enc k] {c m : Nat} (H : Sep w₀ S rs w) (hat : At rs (cO e k enc (.slice A l.length c) l) put) (hm : m ≤ l.length) : Sep w₀ S (put (cO e k enc (.slice A m c) (l.take m))) w := by
 refine H.imp hat fun F hF => ?_
 obtain ⟨⟨h1, h2⟩, h3⟩ := hF
 have Xi : (l.take m).length = m := by rw [List.length_take]; omega
 refine ⟨?_, fun b => by rw [h3 b]; cases A <;> simp [Value.ownBlock]⟩
 show w.ownsRow 0 e k _ (l.take m).length ((l.take m).flatMap enc)
 rw [Xi, Ar hk.len]
 refine ⟨by rw [List.length_take, h1]; exact Nat.min_eq_left (Nat.mul_le_mul_right k hm), ?_⟩
 rcases h2 with ⟨hv, h0⟩ | ⟨g, cap, cur, hv, hg, hh, rG, hmax, hsz, Ca⟩
 ·injection hv with ha hb hc
  subst ha; subst hc
  left
  have : m = 0 := by omega
  subst this
  exact ⟨rfl, rfl⟩
 injection hv with ha hb hc
 subst ha; subst hc
 refine .inr ⟨g, c, cur, rfl, hg, hh, by omega, hmax, hsz, ?_⟩
 rw [← Ca, List.take_take, Nat.min_eq_left (Nat.mul_le_mul_right k hm)]
theorem xZ {P : Program} {ρ : Operand → Value} {ty : TypeId} {x y : Operand} {t b c bytes : Nat} [hs : dA P t e] [hc : Cells P e k bytes] {z : Value} [hz : Zero P e z] [hk : jU enc k]
    (H : Sep w₀ S (blk b (news.flatMap enc) e :: rs) w) (hx : ρ x = v) (hy : ρ y = .slice (some ⟨b, 0, none⟩) c c) (hc' : c = news.length) (hat : At rs (cO e k enc v l) put) (nY : ∀ u ∈ news.flatMap enc, u.oneCell' = true)
    (BK : 0 < k) (Co : z.cells.size = k) (yT : l.length + news.length ≤ maxLen) (jk : (l.length + news.length) * bytes ≤ 140737488355328) :
    ∃ v' w', Gives P ρ (.call { callee := .builtin .append, args := #[x, y], argTypes := #[t, t] }) ty w v' w' ∧ Sep w₀ S (put (cO e k enc v' (l ++ news))) w' := by
  subst hc'
  have hr : iI w (some ⟨b, 0, none⟩) news.length k (news.flatMap enc) := Sep.gJ H At0 (jT hk.len news)
  have H2 := H.fI
  obtain ⟨F, hp, _, _⟩ := H2.focus hat
  obtain ⟨v', w', iP, l9, hg, hb⟩ := sI (P := P) (ty := ty) t e (z := z) BK Co v l.length (l.flatMap enc) hp.1 (some ⟨b, 0, none⟩) news.length news.length (news.flatMap enc) hr nY yT jk
  refine ⟨v', w', fun _ _ _ _ => ?_, ?_⟩
  · simp only [execOp, resolve, invoke, builtin, Sem.run_bind, Sem.run_pure, Result.andThen_ok, List.map_toArray, List.map_cons, List.map_nil, hx, hy, iP]
  refine H2.y7 hat hg ?_ (by rcases hb with e | e <;> simp [e])
  rw [← List.flatMap_append] at l9
  rw [List.length_append]
  exact l9
end
section
variable {P : Program} {r : Option Nat} {n : Nat} {ops : Array Oper} {Q : Post} {rest : List Oper} {σ : St} {w w' w₀ : World} {S : Nat → Prop} {rs : List HP} {put : HP → List HP} {ty : TypeId} {pos : String} {after : Array Edge} {guard : Option (Nat × Bool)} {lv : List Bool} {pd : List (Nat × Bool)} {α : Type} {enc : α → List Value} {k e : Nat} {l news : List α} {v : Value}
theorem gK {d : Nat} {x y : Operand} {t b c bytes : Nat} [hs : dA P t e] [hc : Cells P e k bytes] {z : Value} [hz : Zero P e z] [hk : jU enc k]
    (H : Sep w₀ S (blk b (news.flatMap enc) e :: rs) w) (hat : At rs (cO e k enc v l) put) (yT : l.length + news.length ≤ maxLen) (jk : (l.length + news.length) * bytes ≤ 140737488355328) (nY : ∀ u ∈ news.flatMap enc, u.oneCell' = true)
    (hx : evF σ x = v := by exact rfl) (hy : evF σ y = .slice (some ⟨b, 0, none⟩) c c := by exact rfl) (hc' : c = news.length := by exact rfl) (BK : 0 < k := by decide) (Co : z.cells.size = k := by exact rfl) (hd : Nat.blt d n = true := by exact rfl)
    (h : ∀ v' w', Sep w₀ S (put (cO e k enc v' (l ++ news))) w' → FL P r n ops Q rest (upd σ d v') w') :
    FL P r n ops Q ({ dst := some d, op := .call { callee := .builtin .append, args := #[x, y], argTypes := #[t, t] }, type := ty, pos := pos, after := after, guard := none } :: rest) σ w := by
  obtain ⟨v', w', hg, Uu⟩ := xZ (P := P) (t := t) (ty := ty) H hx hy hc' hat nY BK Co yT jk
  exact eu hg hd (h v' w' Uu)
theorem jo (fK : fC n ops = true) (i : Nat) (pd' : List (Nat × Bool)) {d : Nat} {x y : Operand} {t b c bytes : Nat} [hs : dA P t e] [hc : Cells P e k bytes] {z : Value} [hz : Zero P e z] [hk : jU enc k]
    (H : Sep w₀ S (blk b (news.flatMap enc) e :: rs) w) (hat : At rs (cO e k enc v l) put) (yT : l.length + news.length ≤ maxLen) (jk : (l.length + news.length) * bytes ≤ 140737488355328) (nY : ∀ u ∈ news.flatMap enc, u.oneCell' = true)
    (ho : ops[i]? = some { dst := some d, op := .call { callee := .builtin .append, args := #[x, y], argTypes := #[t, t] }, type := ty, pos := pos, after := after, guard := guard } := by exact rfl)
    (hw : Region.wanted { dst := some d, op := .call { callee := .builtin .append, args := #[x, y], argTypes := #[t, t] }, type := ty, pos := pos, after := after, guard := guard } (dR ops σ) = true := by kernel_rfl)
    (hx : evF σ x = v := by exact rfl) (hy : evF σ y = .slice (some ⟨b, 0, none⟩) c c := by exact rfl) (hc' : c = news.length := by exact rfl) (BK : 0 < k := by decide) (Co : z.cells.size = k := by exact rfl)
    (jl : iq ops lv (pd.map (·.1)) i = true := by kernel_rfl) (qA : pd.filter (fun p => !((above ops i).contains p.1)) = pd' := by kernel_rfl)
    (h : ∀ v' w', Sep w₀ S (put (cO e k enc v' (l ++ news))) w' → jX P ops (upd σ d v') w' pd' ∧ FG P r n ops Q (lv.set i true) pd' (upd σ d v') w') : FG P r n ops Q lv pd σ w :=
  xS fK i pd' ho hw (xZ (P := P) (t := t) (ty := ty) H hx hy hc' hat nY BK Co yT jk) jl qA h
theorem Jm (fK : fC n ops = true) (i : Nat) (pd' : List (Nat × Bool)) {d : Nat} {T : TypeId} {z : Value} [hz : Zero P T z] {cs : List Value} (H : Sep w₀ S rs w) (ho : ops[i]? = some { dst := some d, op := .alloc T, type := ty, pos := pos, after := after, guard := guard } := by exact rfl)
    (hw : Region.wanted { dst := some d, op := .alloc T, type := ty, pos := pos, after := after, guard := guard } (dR ops σ) = true := by kernel_rfl) (oK : z.cells = cs.toArray := by exact rfl)
    (jl : iq ops lv (pd.map (·.1)) i = true := by kernel_rfl) (qA : pd.filter (fun p => !((above ops i).contains p.1)) = pd' := by kernel_rfl)
    (h : ∀ b w', Sep w₀ S (blk b cs T :: rs) w' → jX P ops (upd σ d (.pointer (some ⟨b, 0, none⟩))) w' pd' ∧ FG P r n ops Q (lv.set i true) pd' (upd σ d (.pointer (some ⟨b, 0, none⟩))) w') : FG P r n ops Q lv pd σ w :=
  xS (C := fun v w' => ∃ b, v = .pointer (some ⟨b, 0, none⟩) ∧ Sep w₀ S (blk b cs T :: rs) w') fK i pd' ho hw
    ⟨.pointer (some ⟨w.heap.size, 0, none⟩), w.alloc (.cells cs.toArray T), fun _ _ _ _ => by simp [execOp, Instr.alloc, hz.run, newVar, newRow, oK], _, rfl, H.alloc _⟩ jl qA
    (fun v w' hv => by obtain ⟨b, rfl, hs⟩ := hv; exact h b w' hs)
end
section
variable {P : Program} {ρ : Operand → Value} {ty : TypeId} {w : World} {x y : Operand} {α : Type} {enc : α → List Value} {k : Nat} {l : List α} {A : Option Addr}
theorem Gives.o8 [hk : jU enc k] {i f : Nat} {c : α} {v : Value} {T : TypeId} [OneCell P T] (hx : ρ x = adr A (i * k + f)) (hr : Rd w A enc k l) (hg : l[i]? = some c) (hv : (enc c)[f]? = some v) : Gives P ρ (.load T x) ty w v w := by
 obtain ⟨ad, rfl, h2⟩ := hr.cell hg hv
 exact Gives.WV hx h2
theorem Gives.Dz [hk : jU enc k] {i : Nat} {c : α} {T : TypeId} [Agg P T k] (hx : ρ x = adr A (i * k)) (hr : Rd w A enc k l) (hg : l[i]? = some c) : Gives P ρ (.load T x) ty w (.agg (enc c).toArray) w :=
 Gives.iM (rs := []) hx (Sep.bB w) hr hg
end
end Go.Mw
namespace Go.Proofs.YtolaedhdjcnijaaGreatDoor
open Go Go.Mw
theorem cells_one {α : Type} {enc : α → List Value} (h : ∀ x, (enc x).all Value.oneCell' = true) (l : List α) : ∀ u ∈ l.flatMap enc, u.oneCell' = true := fun u hu => by
 obtain ⟨x, _, hx⟩ := List.mem_flatMap.1 hu
 exact List.all_eq_true.1 (h x) u hx
end Go.Proofs.YtolaedhdjcnijaaGreatDoor
namespace Go.Mw
open Go
section
variable {α β : Type} {enc : α → List Value} {val : β → Value} {row : β → List α} {k e : Nat} {l : List β} {x : β} {w w₀ : World} {S : Nat → Prop} {rs : List HP} {put : HP → List HP}
end
end Go.Mw
namespace Go.Mw
open Go.RowKit
section
variable {α : Type} {enc : α → List Value} {k e : Nat} {l news : List α} {A B : Option Addr} {w w' w₀ : World} {S : Nat → Prop} {rs : List HP}
theorem TN {w : World} {b e s n : Nat} {v : Value} {xs : List Value} (h : w.ownsRow b e s v n xs) : w.ownsRow 0 e s v n xs := by
 refine ⟨h.1, ?_⟩
 rcases h.2 with h2 | ⟨g, cap, cur, hv, _, r⟩
 ·exact .inl h2
 exact .inr ⟨g, cap, cur, hv, Nat.zero_le _, r⟩
theorem DC {w w' : World} (h : w.grownBy w' none) : Kept noB w w' := ⟨h.os, h.tape, h.output, h.size, fun k hk _ => h.block k hk fun e => by cases e⟩
theorem EG {P : Program} {ρ : Operand → Value} {ty : TypeId} {x y : Operand} {t c bytes : Nat} [hs : dA P t e] [hc : Cells P e k bytes] {z : Value} [hz : Zero P e z] [hk : jU enc k]
    (H : Sep w₀ S rs w) (hx : ρ x = .slice A l.length l.length) (hr : Rd w A enc k l) (hy : ρ y = .slice B news.length c) (JM : Rd w B enc k news) (nY : ∀ u ∈ news.flatMap enc, u.oneCell' = true)
    (BK : 0 < k) (Co : z.cells.size = k) (fM : 0 < news.length) (yT : l.length + news.length ≤ maxLen) (jk : (l.length + news.length) * bytes ≤ 140737488355328) :
    ∃ v' w', Gives P ρ (.call { callee := .builtin .append, args := #[x, y], argTypes := #[t, t] }) ty w v' w' ∧ Sep w₀ S (cO e k enc v' (l ++ news) :: rs) w' ∧ Kept noB w w' := by
  have fin : ∀ v' w', (Builtin.append_ #[t, t] ty #[.slice A l.length l.length, .slice B news.length c]).run P w = .ok v' w' → w'.ownsRow 0 e k v' (l.length + news.length) (l.flatMap enc ++ news.flatMap enc) → Kept noB w w' → (∀ b, v'.ownBlock = some b → w.heap.size ≤ b) →
      ∃ v' w', Gives P ρ (.call { callee := .builtin .append, args := #[x, y], argTypes := #[t, t] }) ty w v' w' ∧ Sep w₀ S (cO e k enc v' (l ++ news) :: rs) w' ∧ Kept noB w w' := by
    intro v' w' iP l9 dK hb
    refine ⟨v', w', fun _ _ _ _ => ?_, H.new (F' := fun b => v'.ownBlock = some b) dK ⟨?_, fun b => Iff.rfl⟩ hb, dK⟩
    · simp only [execOp, resolve, invoke, builtin, Sem.run_bind, Sem.run_pure, Result.andThen_ok, List.map_toArray, List.map_cons, List.map_nil, hx, hy, iP]
    show w'.ownsRow 0 e k v' (l ++ news).length ((l ++ news).flatMap enc)
    rw [List.length_append, List.flatMap_append]; exact l9
  cases A with
  | none =>
    have hl : l = [] := by
      rcases Nat.eq_zero_or_pos l.length with h | h
      · exact List.eq_nil_of_length_eq_zero h
      obtain ⟨ad, h1⟩ := hr.addr h; cases h1
    subst hl
    obtain ⟨v', w', iP, l9, hg, hb⟩ := sI (P := P) (ty := ty) t e BK Co (.slice none 0 0) 0 [] (World.ownsRow_nil w 0 e k) B news.length c (news.flatMap enc) JM nY yT jk
    refine fin v' w' iP l9 (DC hg) fun b Rl => ?_
    rcases hb with h | h
    · rw [h] at Rl; cases Rl
    rw [h] at Rl; injection Rl with Rl; omega
  | some ad =>
    obtain ⟨i, hi, qB⟩ := Option.map_eq_some_iff.1 hc.size
    simp only [Prod.mk.injEq] at qB
    have vN : i.zero = some z := by
      have := hz.run w
      simp [zeroValue, typeInfo, hi] at this
      cases hq : i.zero with
      | none => simp [hq] at this
      | some u => simp [hq] at this; rw [this]
    obtain ⟨bd, hB, EP⟩ := JM.at_ fM
    subst hB
    have hca : ∀ j u, (l.flatMap enc)[j]? = some u → w.cell? (ad.add j) = some u := by
      intro j u hu
      rcases Nat.eq_zero_or_pos l.length with h | h
      · have hn := List.eq_nil_of_length_eq_zero h
        subst hn
        simp at hu
      obtain ⟨ad', h1, h2⟩ := hr.at_ h
      injection h1 with h1
      subst h1
      exact h2 j u hu
    obtain ⟨v', w', iP, l9, hg⟩ := run_append_arg_grows (P := P) w t ty e i z k bytes hs.und hi vN qB.1 qB.2 Co BK ad l.length l.length (l.flatMap enc) hr.len hca bd news.length c (news.flatMap enc) JM.len EP (by omega) yT jk
    exact fin v' w' iP (TN l9) (DC hg) fun b hb => (l9.lt b hb).1
end
section
variable {P : Program} {r : Option Nat} {n : Nat} {ops : Array Oper} {Q : Post} {rest : List Oper} {σ : St} {w w' w₀ : World} {S : Nat → Prop} {rs : List HP} {put : HP → List HP} {ty : TypeId} {pos : String} {after : Array Edge} {guard : Option (Nat × Bool)} {lv : List Bool} {pd : List (Nat × Bool)} {α : Type} {enc : α → List Value} {k e : Nat} {l news : List α} {A B : Option Addr}
theorem Nt {d : Nat} {x y : Operand} {t c bytes : Nat} [hs : dA P t e] [hc : Cells P e k bytes] {z : Value} [hz : Zero P e z] [hk : jU enc k]
    (H : Sep w₀ S rs w) (hr : Rd w A enc k l) (JM : Rd w B enc k news) (fM : 0 < news.length) (yT : l.length + news.length ≤ maxLen) (jk : (l.length + news.length) * bytes ≤ 140737488355328) (nY : ∀ u ∈ news.flatMap enc, u.oneCell' = true)
    (hx : evF σ x = .slice A l.length l.length := by exact rfl) (hy : evF σ y = .slice B news.length c := by exact rfl) (BK : 0 < k := by decide) (Co : z.cells.size = k := by exact rfl) (hd : Nat.blt d n = true := by exact rfl)
    (h : ∀ v' w', Sep w₀ S (cO e k enc v' (l ++ news) :: rs) w' → Kept noB w w' → FL P r n ops Q rest (upd σ d v') w') :
    FL P r n ops Q ({ dst := some d, op := .call { callee := .builtin .append, args := #[x, y], argTypes := #[t, t] }, type := ty, pos := pos, after := after, guard := none } :: rest) σ w := by
  obtain ⟨v', w', hg, Uu, dK⟩ := EG (P := P) (t := t) (ty := ty) H hx hr hy JM nY BK Co fM yT jk
  exact eu hg hd (h v' w' Uu dK)
theorem rC {P : Program} {ρ : Operand → Value} {ty : TypeId} {x y : Operand} {t c bytes : Nat} {v : Value} [hs : dA P t e] [hc : Cells P e k bytes] {z : Value} [hz : Zero P e z] [hk : jU enc k]
    (H : Sep w₀ S rs w) (hx : ρ x = v) (hy : ρ y = .slice B news.length c) (JM : Rd w B enc k news) (hat : At rs (cO e k enc v l) put) (nY : ∀ u ∈ news.flatMap enc, u.oneCell' = true)
    (BK : 0 < k) (Co : z.cells.size = k) (yT : l.length + news.length ≤ maxLen) (jk : (l.length + news.length) * bytes ≤ 140737488355328) :
    ∃ v' w', Gives P ρ (.call { callee := .builtin .append, args := #[x, y], argTypes := #[t, t] }) ty w v' w' ∧ Sep w₀ S (put (cO e k enc v' (l ++ news))) w' := by
  obtain ⟨v', w', hg, h2⟩ := GL (P := P) (t := t) (ty := ty) H hx hy hat JM nY BK Co yT jk
  refine ⟨v', w', hg, ?_⟩
  have e : cO e k enc v' (l ++ news) = yj e k v' (l.length + news.length) (l.flatMap enc ++ news.flatMap enc) := by unfold cO; rw [List.length_append, List.flatMap_append]
  rw [e]; exact h2
theorem qx {d : Nat} {x y : Operand} {t c bytes : Nat} {v : Value} [hs : dA P t e] [hc : Cells P e k bytes] {z : Value} [hz : Zero P e z] [hk : jU enc k]
    (H : Sep w₀ S rs w) (hat : At rs (cO e k enc v l) put) (JM : Rd w B enc k news) (yT : l.length + news.length ≤ maxLen) (jk : (l.length + news.length) * bytes ≤ 140737488355328) (nY : ∀ u ∈ news.flatMap enc, u.oneCell' = true)
    (hx : evF σ x = v := by exact rfl) (hy : evF σ y = .slice B news.length c := by exact rfl) (BK : 0 < k := by decide) (Co : z.cells.size = k := by exact rfl) (hd : Nat.blt d n = true := by exact rfl)
    (h : ∀ v' w', Sep w₀ S (put (cO e k enc v' (l ++ news))) w' → FL P r n ops Q rest (upd σ d v') w') :
    FL P r n ops Q ({ dst := some d, op := .call { callee := .builtin .append, args := #[x, y], argTypes := #[t, t] }, type := ty, pos := pos, after := after, guard := none } :: rest) σ w := by
  obtain ⟨v', w', hg, Uu⟩ := rC (P := P) (t := t) (ty := ty) H hx hy JM hat nY BK Co yT jk
  exact eu hg hd (h v' w' Uu)
theorem lZ (fK : fC n ops = true) (i : Nat) (pd' : List (Nat × Bool)) {d : Nat} {x y : Operand} {t c bytes : Nat} {v : Value} [hs : dA P t e] [hc : Cells P e k bytes] {z : Value} [hz : Zero P e z] [hk : jU enc k]
    (H : Sep w₀ S rs w) (hat : At rs (cO e k enc v l) put) (JM : Rd w B enc k news) (yT : l.length + news.length ≤ maxLen) (jk : (l.length + news.length) * bytes ≤ 140737488355328) (nY : ∀ u ∈ news.flatMap enc, u.oneCell' = true)
    (ho : ops[i]? = some { dst := some d, op := .call { callee := .builtin .append, args := #[x, y], argTypes := #[t, t] }, type := ty, pos := pos, after := after, guard := guard } := by exact rfl)
    (hw : Region.wanted { dst := some d, op := .call { callee := .builtin .append, args := #[x, y], argTypes := #[t, t] }, type := ty, pos := pos, after := after, guard := guard } (dR ops σ) = true := by kernel_rfl)
    (hx : evF σ x = v := by exact rfl) (hy : evF σ y = .slice B news.length c := by exact rfl) (BK : 0 < k := by decide) (Co : z.cells.size = k := by exact rfl)
    (jl : iq ops lv (pd.map (·.1)) i = true := by kernel_rfl) (qA : pd.filter (fun p => !((above ops i).contains p.1)) = pd' := by kernel_rfl)
    (h : ∀ v' w', Sep w₀ S (put (cO e k enc v' (l ++ news))) w' → jX P ops (upd σ d v') w' pd' ∧ FG P r n ops Q (lv.set i true) pd' (upd σ d v') w') : FG P r n ops Q lv pd σ w :=
  xS fK i pd' ho hw (rC (P := P) (t := t) (ty := ty) H hx hy JM hat nY BK Co yT jk) jl qA h
end
section
/-! The same, whatever else is ready. -/
variable {P : Program} {r : Option Nat} {n : Nat} {ops : Array Oper} {Q : Post} {rest : List Oper} {σ : St} {w w' w₀ : World} {S : Nat → Prop} {rs : List HP} {put : HP → List HP} {ty : TypeId} {pos : String} {after : Array Edge} {guard : Option (Nat × Bool)} {lv : List Bool} {pd : List (Nat × Bool)} {α : Type} {enc : α → List Value} {k e : Nat} {l news : List α} {A B : Option Addr} {v : Value}
theorem uE (fK : fC n ops = true) (i : Nat) (pd' : List (Nat × Bool)) {d : Nat} {t e : TypeId} {xs : List Operand} {parts : List (Nat × Operand)} {out : List Value} {size bytes : Nat} [hs : dA P t e] [hc : Cells P e size bytes] {z : Value} [hz : Zero P e z] (H : Sep w₀ S rs w) (hE : aU (evF σ) size xs out)
    (ho : ops[i]? = some { dst := some d, op := .buildSlice t xs.length parts.toArray, type := ty, pos := pos, after := after, guard := guard } := by exact rfl)
    (hw : Region.wanted { dst := some d, op := .buildSlice t xs.length parts.toArray, type := ty, pos := pos, after := after, guard := guard } (dR ops σ) = true := by kernel_rfl)
    (hp : parts = (xs.zipIdx 0).map fun p => (p.2, p.1) := by exact rfl) (hlen : Nat.ble (xs.length * size) 16777216 = true := by exact rfl)
    (jl : nM ops lv (pd.map (·.1)) i = true := by kernel_rfl) (qA : pd.filter (fun p => !((above ops i).contains p.1)) = pd' := by kernel_rfl)
    (h : ∀ b w', Sep w₀ S (blk b out e :: rs) w' → jX P ops (upd σ d (.slice (some ⟨b, 0, none⟩) xs.length xs.length)) w' pd' ∧ FG P r n ops Q (lv.set i true) pd' (upd σ d (.slice (some ⟨b, 0, none⟩) xs.length xs.length)) w') : nZ P r n ops Q lv pd σ w i :=
  Dy fK i pd' (C := fun v w' => ∃ b, v = .slice (some ⟨b, 0, none⟩) xs.length xs.length ∧ Sep w₀ S (blk b out e :: rs) w') ho hw ⟨_, _, Gives.buildSlice hE hp hlen, _, rfl, H.alloc _⟩ jl qA fun v w' ⟨b, hv, Rj⟩ => by subst hv; exact h b w' Rj
theorem pI (fK : fC n ops = true) (i : Nat) (pd' : List (Nat × Bool)) {d : Nat} {x y : Operand} {t c bytes : Nat} {v : Value} [hs : dA P t e] [hc : Cells P e k bytes] {z : Value} [hz : Zero P e z] [hk : jU enc k]
    (H : Sep w₀ S rs w) (hat : At rs (cO e k enc v l) put) (JM : Rd w B enc k news) (yT : l.length + news.length ≤ maxLen) (jk : (l.length + news.length) * bytes ≤ 140737488355328) (nY : ∀ u ∈ news.flatMap enc, u.oneCell' = true)
    (ho : ops[i]? = some { dst := some d, op := .call { callee := .builtin .append, args := #[x, y], argTypes := #[t, t] }, type := ty, pos := pos, after := after, guard := guard } := by exact rfl)
    (hw : Region.wanted { dst := some d, op := .call { callee := .builtin .append, args := #[x, y], argTypes := #[t, t] }, type := ty, pos := pos, after := after, guard := guard } (dR ops σ) = true := by kernel_rfl)
    (hx : evF σ x = v := by exact rfl) (hy : evF σ y = .slice B news.length c := by exact rfl) (BK : 0 < k := by decide) (Co : z.cells.size = k := by exact rfl)
    (jl : nM ops lv (pd.map (·.1)) i = true := by kernel_rfl) (qA : pd.filter (fun p => !((above ops i).contains p.1)) = pd' := by kernel_rfl)
    (h : ∀ v' w', Sep w₀ S (put (cO e k enc v' (l ++ news))) w' → jX P ops (upd σ d v') w' pd' ∧ FG P r n ops Q (lv.set i true) pd' (upd σ d v') w') : nZ P r n ops Q lv pd σ w i :=
  Dy fK i pd' ho hw (rC (P := P) (t := t) (ty := ty) H hx hy JM hat nY BK Co yT jk) jl qA h
end
theorem Rd.cut {α : Type} {enc : α → List Value} {k : Nat} [hk : jU enc k] {w : World} {A : Option Addr} {l : List α} (h : Rd w A enc k l) (m : Nat) : Rd w A enc k (l.take m) := by
 refine ⟨jT hk.len _, fun hn => ?_⟩
 have hl : 0 < l.length := by rw [List.length_take] at hn; omega
 obtain ⟨ad, h1, h2⟩ := h.at_ hl
 refine ⟨ad, h1, fun j u hu => h2 j u ?_⟩
 rw [Ar hk.len, List.getElem?_take] at hu
 split at hu
 ·exact hu
 cases hu
theorem Rd.from {α : Type} {enc : α → List Value} {k : Nat} [hk : jU enc k] {w : World} {A : Option Addr} {l : List α} (h : Rd w A enc k l) (m : Nat) : Rd w (A.map fun a => a.add (m * k)) enc k (l.drop m) := by
 refine ⟨jT hk.len _, fun hn => ?_⟩
 rw [List.length_drop] at hn
 obtain ⟨ad, h1, h2⟩ := h.at_ (by omega)
 subst h1
 refine ⟨ad.add (m * k), rfl, fun j u hu => ?_⟩
 rw [add_add]
 refine h2 _ _ ?_
 rw [← hu]
 have e : l.flatMap enc = (l.take m).flatMap enc ++ (l.drop m).flatMap enc := by rw [← List.flatMap_append, List.take_append_drop]
 have el : ((l.take m).flatMap enc).length = m * k := by rw [jT hk.len, List.length_take, Nat.min_eq_left (by omega)]
 rw [e, List.getElem?_append_right (by omega), el, Nat.add_sub_cancel_left]
theorem Rd.nil {α : Type} {enc : α → List Value} {k : Nat} {w : World} {A : Option Addr} : Rd w A enc k [] := ⟨by simp, fun h => absurd h (by simp)⟩
theorem Rd.KY {α : Type} {enc : α → List Value} {k c : Nat} [hk : jU enc k] {w : World} {A : Option Addr} {l : List α} (h : Rd w A enc k l) (m : Nat) (hc : l.length ≤ c) : Rd w (if c = m then A else A.map fun a => a.add (m * k)) enc k (l.drop m) := by
 split
 ·rw [List.drop_of_length_le (by omega)]; exact Rd.nil
 exact h.from m
end Go.Mw
namespace Go.Proofs.YtolaedhdjcnijaaGreatDoor
open Go Go.Mw
def intCells (n : Int) : List Value := [I n]
def bX (s : List UInt8) : List Value := [str s]
instance : jU intCells 1 := ⟨fun _ => rfl⟩
instance : jU bX 1 := ⟨fun _ => rfl⟩
end Go.Proofs.YtolaedhdjcnijaaGreatDoor
namespace Go.Proofs.YtolaedhdjcnijaaGreatDoor
open Go Go.Mw Go.Lib
set_option maxRecDepth 4000
def resT (cols : List gG) (st : List dH) (x : bL) : Option dH :=
 if fP x.kind = 0 then oZ cols x else qM x.kind (st.getD (st.length - fP x.kind) fu) (st.getD (st.length - 1) fu)
theorem KZ {cols : List gG} {st : List dH} {x : bL} (h : dI x = false ∨ st.length < fP x.kind) : stepT cols st x = none := by
 unfold stepT
 by_cases h1 : dI x = false
 ·dsimp only; rw [if_pos (.inl h1)]
 have hm : dI x = true := by simpa using h1
 rw [F9 hm] at h
 dsimp only; rw [if_pos (h.imp id id)]
theorem Qw {cols : List gG} {st : List dH} {x : bL} (h1 : dI x = true) (h2 : fP x.kind ≤ st.length) : stepT cols st x = (resT cols st x).map fun t => st.take (st.length - fP x.kind) ++ [t] := by
 unfold stepT resT
 rw [F9 h1] at h2 ⊢
 dsimp only
 rw [if_neg (by rw [h1]; simp; omega)]
theorem Qx (k : Int) : fP k ≤ 2 := by
 unfold fP
 repeat' split
 all_goals omega
theorem l6 {α : Type} {l : List α} {i : Nat} {c d : α} (h : l[i]? = some c) : l.getD i d = c := by rw [List.getD_eq_getElem?_getD, h]; rfl
theorem fT {α : Type} {w₀ w : World} {S : Nat → Prop} {rs : List HP} {put : HP → List HP} {e k c : Nat} {enc : α → List Value} {l : List α} {A : Option Addr} (H : Sep w₀ S rs w) (hat : At rs (cO e k enc (.slice A l.length c) l) put) : Rd w A enc k l := Sep.rowAt H hat
attribute [local irreducible] dI nL
section
variable {w : World}
theorem Ga {cols : List gG} {l : List bL} {vc vl : Value} (hc : dn w vc bE 7 cols) (hl : dn w vl aI 3 l) : bF Tryz.prog 70 [vc, vl] w fun v w' => v = .tuple #[agg (aJ (iT cols l).1), I (iT cols l).2] ∧ Kept noB w w' := by
  have Uq := hc
  obtain ⟨A, m, rfl, ⟨hm, xK⟩, hA⟩ := hc
  obtain ⟨C, n, rfl, ⟨hn, JL⟩, hC⟩ := hl
  have H := Sep.bB w
  obtain ⟨res, ay⟩ : ∃ res, res = iT cols l := ⟨_, rfl⟩
  rw [← ay]
  unfold iT at ay
  refine Ai Tryz.func70 rfl rfl rfl rfl ?_
  refine Sr (bD H (h := fun b1 w2 H2 k1 => ?_))
  refine Am ?_
  refine Qn (au (Sr (Mv ?_)))
  refine Vs ?_
  refine Vg ?_
  refine Qn (Cp rfl (fun oW => ?_) (fun oW => ?_))
  · have bY : res = (fu, 5) := by rw [ay, if_pos (by omega)]
    refine Sr (Vv (Gives.build (out := aJ fu) Fills.nil) (aD H2 (h := fun wa Ha => ?_)))
    refine Am ?_
    refine Qn (Rs (aW (h := ?_)))
    exact ⟨_, dQ Ha, by rw [bY]; rfl, Ha.kept⟩
  rw [if_neg (by omega)] at ay
  refine Sk (Sr (Am ?_))
  refine Qn (au (Sr (Am ?_)))
  refine Qn (aF ?_)
  have Hb := Sep.iX H2 45 2 aJ
  refine bA (fun x : Nat × List dH × Value => [(0, .slice A cols.length m), (1, .slice C l.length n), (4, .pointer (some ⟨b1, 0, none⟩)), (6, x.2.2), (7, I x.1)]) (fun x w' => (x.1 ≤ l.length ∧ x.2.1.length ≤ x.1 ∧ runT cols x.2.1 (l.drop x.1) = runT cols [] l) ∧ Sep w noB [cO 45 2 aJ x.2.2 x.2.1, blk b1 (aJ fu) 45] w') (fun x _ => l.length - x.1) (0, [], _) ⟨rfl, rfl, rfl, rfl, rfl, trivial⟩ ⟨⟨Nat.zero_le _, Nat.le_refl _, rfl⟩, Hb⟩ (fun x τ wb hI => ?_)
  obtain ⟨i, st, v0⟩ := x
  obtain ⟨⟨hi, UU, dJ⟩, Hb⟩ := hI
  dsimp only at hi UU dJ Hb
  obtain ⟨B, cb, rfl, EP, hB⟩ := Sep.fJ Hb At0
  try simp only [cZ, like, bC, bZ]
  refine au (Sr (Mv ?_))
  refine Mv ?_
  refine Vs ?_
  refine Vl ?_
  refine Qn (Cp rfl (fun Ia => ?_) (fun Ia => ?_))
  · have bU : i < l.length := by omega
    obtain ⟨x, hx⟩ := get_some bU
    have Xq : l.drop i = x :: l.drop (i + 1) := by
      rw [List.drop_eq_getElem_cons bU]; rw [List.getElem?_eq_getElem bU] at hx; injection hx with hx; rw [hx]
    rw [Xq, runT] at dJ
    have Ca := Qx x.kind
    refine Sk (au (aF (Sr (Mv ?_))))
    refine Vs ?_
    refine Am ?_
    refine Nx (Mv ?_)
    refine Mv ?_
    refine Vv (Gives.eT rfl rfl (by assumption) (by omega)) (Vv (Gives.fH rfl (by assumption) (by omega)) ?_)
    refine Vv (Gives.iJ rfl Hb (by assumption) (by assumption) rfl) (dY (Ns _) (h := ?_))
    refine Am ?_
    refine Qn (au (Sr (Mv ?_)))
    refine Mv ?_
    refine Vv (Gives.eT rfl rfl (by assumption) (by omega)) (Vv (Gives.iM rfl Hb (by assumption) (by assumption)) ?_)
    refine aN Hb (xA _) (h := fun wc Hc ka => ?_)
    refine Vv (Gives.not rfl) (Mv ?_)
    refine dh (t := 36) rfl (fun Sa => ?_) (fun Sa => ?_)
    · have uy : dI x = false := by simpa using Sa
      refine Of (Of (Of (Pt ?_)))
      refine Qn (aQ rfl ?_)
      refine Sr (Vv (Gives.build (out := aJ fu) Fills.nil) (aD Hc (h := fun wd Hd => ?_)))
      refine Am ?_
      refine Qn (Rs (aH (aL (aR (aH (aL (aW (h := ?_))))))))
      have iY : stepT cols st x = none := KZ (by first | (left; assumption) | (right; omega))
      rw [iY] at dJ
      rw [← dJ] at ay
      exact ⟨_, dQ Hd, by rw [ay]; rfl, Hd.kept⟩
    have uy : dI x = true := by simpa using Sa
    refine On (Mv ?_)
    refine On (Mv ?_)
    refine On (Vg ?_)
    refine Pf ?_
    refine Qn (Cp rfl (fun Ib => ?_) (fun Ib => ?_))
    · refine Sr (Vv (Gives.build (out := aJ fu) Fills.nil) (aD Hc (h := fun we He => ?_)))
      refine Am ?_
      refine Qn (Rs (aH (aL (aR (aH (aL (aW (h := ?_))))))))
      have iY : stepT cols st x = none := KZ (by first | (left; assumption) | (right; omega))
      rw [iY] at dJ
      rw [← dJ] at ay
      exact ⟨_, dQ He, by rw [ay]; rfl, He.kept⟩
    have rG : fP x.kind ≤ st.length := by omega
    have vP := Qw (cols := cols) uy rG
    obtain ⟨rt, Pg⟩ : ∃ rt, rt = resT cols st x := ⟨_, rfl⟩
    rw [← Pg] at vP
    rw [vP] at dJ
    unfold resT at Pg
    refine Sk (Sr (Vv (Gives.build (out := aJ fu) Fills.nil) (bD Hc (h := ?_))))
    intro bt wf Hf _
    refine aD Hf (h := fun wg Hg => ?_)
    refine Nx (Am ?_)
    refine Qn (fO (fun z : dH × Bool => [(0, .slice A cols.length m), (1, .slice C l.length n), (4, .pointer (some ⟨b1, 0, none⟩)), (6, .slice B st.length cb), (7, I i), (8, I st.length), (9, I (fP x.kind)), (10, .pointer (some ⟨bt, 0, none⟩)), (11, .bool z.2)]) (fun z w' => (z.2 = rt.isSome ∧ ∀ y, rt = some y → z.1 = y) ∧ Sep w noB [blk bt (aJ z.1) 45, cO 45 2 aJ (.slice B st.length cb) st, blk b1 (aJ fu) 45] w') ?_ ?_)
    · refine Sr (Mv ?_)
      refine Ve ?_
      refine Qn (Cp rfl (fun Ic => ?_) (fun Ic => ?_))
      · rw [if_pos (by omega)] at Pg
        refine aB (Mv ?_)
        refine Mv ?_
        refine Mv ?_
        refine Vv (Gives.eT rfl rfl (by assumption) (by omega)) (Vv (Gives.iM rfl Hg (by assumption) (by assumption)) ?_)
        refine aN Hg (Qt x (Uq.keep Hg.kept)) (h := fun wh Hh kb => ?_)
        refine Mv ?_
        refine Vx ?_
        refine Vx ?_
        refine aD Hh (h := fun wi Hi => ?_)
        refine Am ?_
        refine aP ?_
        exact aS ((oZ cols x).getD fu, (oZ cols x).isSome) ⟨rfl, rfl, rfl, rfl, rfl, rfl, rfl, rfl, rfl, trivial⟩ ⟨⟨by rw [Pg], fun y hy => by rw [← Pg, hy]; rfl⟩, Hi⟩
      have WI : 1 ≤ fP x.kind := by omega
      obtain ⟨a, ha⟩ := get_some (l := st) (i := st.length - fP x.kind) (by omega)
      obtain ⟨b, hb⟩ := get_some (l := st) (i := st.length - 1) (by omega)
      rw [if_neg (by omega), l6 ha, l6 hb] at Pg
      refine bG rfl Hg (h := fun Sb wj Hj => ?_)
      refine Gm Sb 0 ?_
      refine Gm Sb 1 ?_
      refine Gp Sb 2 rfl rfl (fun _ => (Gives.eT rfl rfl (by assumption) (by omega))) (Gp Sb 3 rfl rfl (fun _ => (Gives.fH rfl (by assumption) (by omega))) ?_)
      refine Gl Sb 4 rfl rfl (Gives.iJ rfl Hj (by assumption) (by assumption) rfl) (Gm Sb 5 ?_)
      refine Gm Sb 6 ?_
      refine Gm Sb 7 ?_
      refine Gp Sb 8 rfl rfl (fun _ => (Gives.yh (c := ((st.length - fP x.kind : Nat) : Int)) rfl rfl (by omega) (by omega))) (Gp Sb 9 rfl rfl (fun _ => (Gives.eT rfl rfl (by assumption) (by omega))) ?_)
      refine Gl Sb 10 rfl rfl (Gives.Dz rfl (fT Hj At1) ha) (Gm Sb 11 ?_)
      refine Gm Sb 12 ?_
      refine Gp Sb 13 rfl rfl (fun _ => (Gives.yh (c := ((st.length - 1 : Nat) : Int)) rfl rfl (by omega) (by omega))) (Gp Sb 14 rfl rfl (fun _ => (Gives.eT rfl rfl (by assumption) (by omega))) ?_)
      refine Gl Sb 15 rfl rfl (Gives.Dz rfl (fT Hj At1) hb) (sN Sb 16 [] rfl (by kernel_rfl) (Qu x.kind a b) rfl (by kernel_rfl) (by kernel_rfl) (fun v' wk hv => ?_))
      obtain ⟨⟨t, rfl, ht⟩, dK⟩ := hv
      have Hk := Hj.keep dK
      refine ⟨aK, ?_⟩
      refine Gm Sb 17 ?_
      refine Gp Sb 18 rfl rfl (fun _ => (Gives.extract rfl rfl)) (Gp Sb 19 rfl rfl (fun _ => (Gives.extract rfl rfl)) ?_)
      refine dF Sb 20 [(19, true)] Hk (h := fun wl Hl => ⟨av (aK), ?_⟩)
      refine Gp Sb 21 rfl rfl (fun _ => Gives.assign rfl) (bR Sb (by kernel_rfl) ?_)
      exact aS (t, (qM x.kind a b).isSome) ⟨rfl, rfl, rfl, rfl, rfl, rfl, rfl, rfl, rfl, trivial⟩ ⟨⟨by rw [Pg], fun y hy => ht y (by rw [← Pg]; exact hy)⟩, Hl⟩
    rintro ⟨t, ok⟩ τ wm ⟨⟨Yt, iZ⟩, Hm⟩
    dsimp only at Yt iZ Hm
    simp only [cZ, like, bC]
    refine au (Sr (Mv ?_))
    refine Vv (Gives.not rfl) (Qn ?_)
    refine Cd rfl (fun Id => ?_) (fun Id => ?_)
    · have hrn : rt = none := by
        cases rt with
        | none => rfl
        | some y => rw [Yt] at Id; cases Id
      rw [hrn] at dJ
      have ER : none = runT cols [] l := dJ
      rw [← ER] at ay
      have bY : res = (fu, 220) := ay
      refine Sr (Vv (Gives.build (out := aJ fu) Fills.nil) (aD Hm (h := fun wn Hn => ?_)))
      refine Am ?_
      refine Qn (Rs (aH (aL (aR (aH (aL (aW (h := ?_))))))))
      exact ⟨_, dQ Hn, by rw [bY]; rfl, Hn.kept⟩
    obtain ⟨y, hy⟩ : ∃ y, rt = some y := by
      cases rt with
      | none => rw [Yt] at Id; cases Id
      | some y => exact ⟨y, rfl⟩
    have hty := iZ y hy
    subst hty
    rw [hy] at dJ
    have ER : runT cols (st.take (st.length - fP x.kind) ++ [t]) (l.drop (i + 1)) = runT cols [] l := dJ
    refine Sk (bG rfl Hm (h := fun Sc wo Ho => ?_))
    refine Gm Sc 0 ?_
    refine Gm Sc 1 ?_
    refine Gm Sc 2 ?_
    refine Gp Sc 3 rfl rfl (fun _ => (Gives.yh (c := ((st.length - fP x.kind : Nat) : Int)) rfl rfl (by omega) (by omega))) (Gp Sc 4 rfl rfl (fun _ => (Gives.sliceTo rfl rfl (by omega))) ?_)
    refine dD Sc 5 Ho (h := ?_)
    refine eD Sc 6 [(4, true), (3, true), (2, true), (1, true), (0, true)] Ho (xs := [.tmp 82]) (out := [t].flatMap aJ) (aU.many rfl rfl aU.nil) (h := fun b wp Hp => ⟨av (av (av (av (av (aK))))), ?_⟩)
    have abZ := Sep.aa6 (m := st.length - fP x.kind) Hp At2 (by omega)
    have zV : (st.take (st.length - fP x.kind)).length = st.length - fP x.kind := by rw [List.length_take]; omega
    refine jo Sc 7 [] abZ (news := [t]) At1 (by rw [zV]; unfold maxLen; simp; omega) (by rw [zV]; simp; omega) (cells_one (fun _ => rfl) [t]) (h := fun v2 wq Hq => ⟨aK, ?_⟩)
    refine rX Sc 8 [] (h := ⟨aK, ?_⟩)
    refine bR Sc (by kernel_rfl) ?_
    refine aA (aj (aB (Mv ?_)))
    refine Vv (Gives.bM rfl rfl rfl (by omega)) (Am ?_)
    refine aP ?_
    exact aC (i + 1, st.take (st.length - fP x.kind) ++ [t], v2) ⟨rfl, rfl, rfl, rfl, rfl, trivial⟩ ⟨⟨by dsimp only; omega, by dsimp only; rw [List.length_append, zV]; simp; omega, ER⟩, Hq.fI⟩ (by dsimp only; omega)
  have jW : i = l.length := by omega
  rw [jW, List.drop_length, runT] at dJ
  rw [← dJ] at ay
  refine bq (aT (aO (aV (aj (au (Sr (Mv ?_)))))))
  refine Vs ?_
  refine Vn ?_
  refine Qn (Cp rfl (fun Ie => ?_) (fun Ie => ?_))
  · have bY : res = (fu, 220) := by
      rw [ay]
      match st, Ie with
      | [], _ => rfl
      | [_], h => exact absurd rfl h
      | _ :: _ :: _, _ => rfl
    refine Sr (Vv (Gives.build (out := aJ fu) Fills.nil) (aD Hb (h := fun wr Hr => ?_)))
    refine Am ?_
    refine Qn (Rs (aW (h := ?_)))
    exact ⟨_, dQ Hr, by rw [bY]; rfl, Hr.kept⟩
  have h1 : st.length = 1 := by omega
  obtain ⟨t, ht⟩ := List.length_eq_one_iff.1 h1
  have hg : st[0]? = some t := by rw [ht]; rfl
  have bY : res = (t, 0) := by rw [ay, ht]
  refine Sk (Sr (Mv ?_))
  refine Vv (Gives.eT (i := 0) rfl rfl hB (by omega)) (Vv (Gives.Dz (i := 0) rfl hB hg) ?_)
  refine aD Hb (h := fun ws Hs => ?_)
  refine Am ?_
  refine Qn (aM (aW (h := ?_)))
  exact ⟨_, dQ Hs, by rw [bY]; rfl, Hs.kept⟩
end
section
variable {w : World}
end
section
variable {w : World}
end
end Go.Proofs.YtolaedhdjcnijaaGreatDoor
namespace Go.Proofs.YtolaedhdjcnijaaGreatDoor
open Go Go.Lib
set_option maxRecDepth 4000
def okC (t : dH) (c : iB) : Prop := jE t c = 0
end Go.Proofs.YtolaedhdjcnijaaGreatDoor
namespace Go.Proofs.YtolaedhdjcnijaaGreatDoor
open Go Go.Lib
theorem DF : ∀ {l : List Int} {k : Nat} {id : Int}, (∀ (j : Nat) x, j < k → l[j]? = some x → x < id) → k ≤ l.length → (∀ x, l[k]? = some x → ¬ x < id) →
    eH id l = if l[k]? = some id then l else l.take k ++ id :: l.drop k
  | [], k, id, _, hk, _ => by
    have : k = 0 := by simpa using hk
    subst this
    rfl
  | x :: l, 0, id, _, _, h => by
    have hx := h x rfl
    rw [eH, if_neg hx]
    by_cases e : x = id
    · rw [if_pos e, if_pos (by rw [e]; rfl)]
    rw [if_neg e, if_neg (fun e2 => e (by injection e2))]
    rfl
  | x :: l, k + 1, id, h1, hk, h => by
    have hx := h1 0 x (by omega) rfl
    rw [eH, if_pos hx, DF (k := k) (fun j y hj hy => h1 (j + 1) y (by omega) hy) (by simpa using hk) (fun y hy => h y hy)]
    show _ = if l[k]? = some id then x :: l else x :: (l.take k ++ id :: l.drop k)
    split <;> rfl
theorem vE {k x : Int} : ∀ {l : List Int}, x ∈ eH k l ↔ x = k ∨ x ∈ l
 | [] => by simp [eH]
 | y :: l => by
  rw [eH]
  split
  ·rw [List.mem_cons, vE, List.mem_cons]; constructor
   ·rintro (h | h | h)
    ·exact .inr (.inl h)
    ·exact .inl h
    exact .inr (.inr h)
   rintro (h | h | h)
   ·exact .inr (.inl h)
   ·exact .inl h
   exact .inr (.inr h)
  split
  ·rename_i h1 h2
   subst h2
   rw [List.mem_cons]
   constructor
   ·intro h; exact .inr h
   rintro (h | h)
   ·exact .inl h
   exact h
  rw [List.mem_cons]
theorem x9 {k : Int} : ∀ {l : List Int}, l.Pairwise (· < ·) → (eH k l).Pairwise (· < ·)
 | [], _ => by simp [eH]
 | y :: l, h => by
  rw [eH]
  obtain ⟨h1, h2⟩ := List.pairwise_cons.1 h
  split
  ·rename_i hy
   refine List.pairwise_cons.2 ⟨fun z hz => ?_, x9 h2⟩
   rcases vE.1 hz with rfl | hz
   ·exact hy
   exact h1 z hz
  split
  ·exact h
  refine List.pairwise_cons.2 ⟨fun z hz => ?_, h⟩
  rcases List.mem_cons.1 hz with rfl | hz
  ·omega
  have := h1 z hz; omega
theorem DI {l : List bL} : ∀ {a : List Int}, a.Pairwise (· < ·) → (l.foldl (fun a x => eH x.n a) a).Pairwise (· < ·) ∧ ∀ k, k ∈ l.foldl (fun a x => eH x.n a) a ↔ k ∈ a ∨ ∃ x ∈ l, x.n = k := by
 induction l with
 | nil => intro a h; exact ⟨h, fun k => by simp⟩
 | cons x l ih =>
  intro a h
  obtain ⟨h1, h2⟩ := ih (a := eH x.n a) (x9 h)
  refine ⟨h1, fun k => ?_⟩
  rw [List.foldl_cons, h2 k, vE]
  constructor
  ·rintro ((h | h) | ⟨y, hy, e⟩)
   ·exact .inr ⟨x, List.mem_cons_self, h.symm⟩
   ·exact .inl h
   exact .inr ⟨y, List.mem_cons_of_mem _ hy, e⟩
  rintro (h | ⟨y, hy, e⟩)
  ·exact .inl (.inr h)
  rcases List.mem_cons.1 hy with rfl | hy
  ·exact .inl (.inl e.symm)
  exact .inr ⟨y, hy, e⟩
theorem Bu (l : List bL) : (o7 l).Pairwise (· < ·) := (DI List.Pairwise.nil).1
theorem r9 {l : List bL} {k : Int} : k ∈ o7 l ↔ ∃ x ∈ l, x.kind = 1 ∧ x.n = k := by
 unfold o7
 rw [(DI List.Pairwise.nil).2 k]
 simp only [List.not_mem_nil, false_or, List.mem_filter, decide_eq_true_eq, and_assoc]
theorem yL : ∀ {a b : List Int}, a.Pairwise (· < ·) → b.Pairwise (· < ·) → (∀ k, k ∈ a ↔ k ∈ b) → a = b
 | [], [], _, _, _ => rfl
 | [], y :: b, _, _, h => absurd ((h y).2 List.mem_cons_self) (by simp)
 | x :: a, [], _, _, h => absurd ((h x).1 List.mem_cons_self) (by simp)
 | x :: a, y :: b, h1, h2, h => by
  obtain ⟨p1, p2⟩ := List.pairwise_cons.1 h1
  obtain ⟨q1, q2⟩ := List.pairwise_cons.1 h2
  have yS : x = y := by
   rcases List.mem_cons.1 ((h x).1 List.mem_cons_self) with e | hx
   ·exact e
   rcases List.mem_cons.1 ((h y).2 List.mem_cons_self) with e | hy
   ·exact e.symm
   have := p1 y hy
   have := q1 x hx
   omega
  subst yS
  congr 1
  refine yL p2 q2 fun k => ⟨fun hk => ?_, fun hk => ?_⟩
  ·rcases List.mem_cons.1 ((h k).1 (List.mem_cons_of_mem _ hk)) with rfl | hk'
   ·exact absurd (p1 k hk) (by omega)
   exact hk'
  rcases List.mem_cons.1 ((h k).2 (List.mem_cons_of_mem _ hk)) with rfl | hk'
  ·exact absurd (q1 k hk) (by omega)
  exact hk'
theorem foldl_filter {l : List bL} (a : List Int) : (l.filter fun x => decide (x.kind = 1)).foldl (fun a x => eH x.n a) a = l.foldl (fun a x => if x.kind = 1 then eH x.n a else a) a := by
 induction l generalizing a with
 | nil => rfl
 | cons x l ih =>
  rw [List.foldl_cons, List.filter_cons]
  by_cases h : x.kind = 1
  ·rw [if_pos (by simpa using h), if_pos h, List.foldl_cons, ih]
  rw [if_neg (by simpa using h), if_neg h, ih]
theorem oG (k : Int) : ∀ l : List Int, (eH k l).length ≤ l.length + 1
 | [] => by simp [eH]
 | x :: l => by
  rw [eH]
  have := oG k l
  split
  ·simp; omega
  split <;> simp
end Go.Proofs.YtolaedhdjcnijaaGreatDoor
